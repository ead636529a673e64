/- Small words for printed walks. -/
import Derived.Test.YtbbeobiampbddaaLh
set_option linter.unusedVariables false
set_option linter.unusedSimpArgs false
set_option linter.unnecessarySimpa false
namespace Go.Proofs.YtbbeobiampbddaaL
open Go Go.RowKit

/-! The plain functions' own words. -/
theorem bindE {α β : Type} {o : Option α} {f : α → Option β} {r : β} (h : o.bind f = some r) : ∃ x, o = some x ∧ f x = some r := Option.bind_eq_some_iff.1 h
theorem iteE {β : Type} {c : Bool} {a b : Option β} {r : β} (h : (if c then a else b) = some r) : (c = true ∧ a = some r) ∨ (c = false ∧ b = some r) := by
  cases c with
  | true => exact .inl ⟨rfl, h⟩
  | false => exact .inr ⟨rfl, h⟩
theorem guardE {β : Type} {c : Prop} [Decidable c] {a : Option β} {r : β} (h : (if c then a else none) = some r) : c ∧ a = some r := by
  split at h
  · exact ⟨‹_›, h⟩
  · cases h
def letV {α β : Type} (e : α) (f : α → Option β) : Option β := f e
theorem letE {α β : Type} {e : α} {f : α → Option β} {r : β} (h : letV e f = some r) : ∃ x, e = x ∧ f x = some r := ⟨e, rfl, h⟩
theorem bool_tr {v : Value} {c b : Bool} (h : v = .bool c) (hc : c = b) : v = .bool b := by rw [h, hc]
theorem ib_as {op : BinOp} {k : IntKind} {a b e x : Int} (h : e = x) (hb : IntBin op k a b (.int k e)) : IntBin op k a b (.int k x) := h ▸ hb
/-- append, within what memory bears. -/
def app {α : Type} (bytes : Nat) (xs ys : List α) : Option (List α) := if (xs.length + ys.length) * bytes ≤ 140737488355328 then some (xs ++ ys) else none
theorem appE {α : Type} {bytes : Nat} {xs ys zs : List α} (h : app bytes xs ys = some zs) : (xs.length + ys.length) * bytes ≤ 140737488355328 ∧ xs ++ ys = zs := by
  unfold app at h
  obtain ⟨h1, h2⟩ := guardE h
  exact ⟨h1, Option.some.inj h2⟩
/-- Strings joined. -/
def cat (a b : List UInt8) : Option (List UInt8) := if a.length + b.length ≤ 9223372036854775807 then some (a ++ b) else none
theorem sb_cat {a b c : List UInt8} (h : cat a b = some c) : StrBin .add a b (bstr c) := by
  unfold cat at h
  obtain ⟨h1, h2⟩ := guardE h
  cases h2
  exact sb_add a b h1
/-- A cut within the length. -/
def cut {α : Type} (xs : List α) (lo hi : Int) : Option (List α) := if 0 ≤ lo ∧ lo ≤ hi ∧ hi ≤ xs.length then some ((xs.take hi.toNat).drop lo.toNat) else none
theorem cutE {α : Type} {xs ys : List α} {lo hi : Int} (h : cut xs lo hi = some ys) : (0 ≤ lo ∧ lo ≤ hi ∧ hi ≤ xs.length) ∧ (xs.take hi.toNat).drop lo.toNat = ys := by
  obtain ⟨h1, h2⟩ := guardE h
  exact ⟨h1, Option.some.inj h2⟩
/-- make, within what memory bears. -/
def mk {α : Type} (bytes : Nat) (n : Int) (z : α) : Option (List α) := if 0 ≤ n ∧ n * bytes ≤ 140737488355328 then some (List.replicate n.toNat z) else none
def maxI (a b : Int) : Int := if b > a then b else a
def minI (a b : Int) : Int := if b < a then b else a

/-! Readings. -/
theorem All.nil {ok : Nat → Prop} {w : World} : All ok w [] := fun _ h => by cases h
theorem All.cons {ok : Nat → Prop} {w : World} {it : It} {Γ : List It} (h : it.holds ok w) (hr : All ok w Γ) : All ok w (it :: Γ) := fun i hi => by
  rcases List.mem_cons.1 hi with rfl | hi
  · exact h
  · exact hr i hi
section
variable {α β γ : Type} {T : Ty α} {F : Ty β} {G : Ty γ} {ok : Nat → Prop} {w : World}
theorem R_agg {x : α} {cs : List Value} (h : (vl T x (.agg cs.toArray)).holds ok w) (hT : T.agg = true) : T.R ok w x cs := by
  obtain ⟨ds, hR, e⟩ := h
  rw [hT] at e
  simp only [cond_true, Value.agg.injEq] at e
  have : cs = ds := by simpa using congrArg Array.toList e
  rwa [this]
theorem V_agg {x : α} {cs : List Value} (h : T.R ok w x cs) (hT : T.agg = true) : (vl T x (.agg cs.toArray)).holds ok w := ⟨cs, h, by rw [hT]; rfl⟩
theorem R_one {xs : List α} {v : Value} (h : (vl (tSlice T) xs v).holds ok w) : (tSlice T).R ok w xs [v] := by
  obtain ⟨a, c, e, h1, h2⟩ := tSlice_V.1 h
  exact ⟨a, c, by rw [e], h1, h2⟩
theorem R_nil : (tSlice T).R ok w [] [.slice none 0 0] := ⟨none, 0, rfl, Nat.le_refl _, .inl rfl⟩
theorem V_nil : (vl (tSlice T) [] (.slice none 0 0)).holds ok w := tSlice_V.2 ⟨none, 0, rfl, Nat.le_refl _, .inl rfl⟩
theorem V_fld {off : Nat} {get : α → β} {set : α → β → α} (hf : Fld T F off get set) {x : α} {cs : List Value} {v : Value} (h : (vl T x (.agg cs.toArray)).holds ok w) (hT : T.agg = true) (hF : F.agg = false) (hv : (cs.drop off).take F.sz = [v]) :
    (vl F (get x) v).holds ok w := ⟨[v], hv ▸ hf.get_ (R_agg h hT), by rw [hF]; rfl⟩
/-! Fields of fields. -/
theorem Fld.self : Fld T T 0 (fun x => x) (fun _ y => y) where
  le := by simp
  get_ := by
    intro ok w x cs h
    rw [List.drop_zero, ← T.len h, List.take_length]
    exact h
  set_ := by
    intro ok w x cs y ds h h'
    rw [List.take_zero, Nat.zero_add, ← T.len h, List.drop_length]
    simpa using h'
theorem Fld.fst (T : Ty α) (F : Ty β) : Fld (tPair T F) T 0 (fun x => x.1) (fun x y => (y, x.2)) where
  le := by show 0 + T.sz ≤ T.sz + F.sz; omega
  get_ := by
    rintro ok w x _ ⟨c1, c2, rfl, h1, h2⟩
    rw [List.drop_zero, ← T.len h1, List.take_left]
    exact h1
  set_ := by
    rintro ok w x _ y ds ⟨c1, c2, rfl, h1, h2⟩ h'
    rw [List.take_zero, Nat.zero_add, ← T.len h1, List.drop_left]
    exact ⟨ds, c2, by simp, h', h2⟩
theorem Fld.snd {off : Nat} {get : β → γ} {set : β → γ → β} (h : Fld F G off get set) : Fld (tPair T F) G (T.sz + off) (fun x => get x.2) (fun x y => (x.1, set x.2 y)) where
  le := by have := h.le; show T.sz + off + G.sz ≤ T.sz + F.sz; omega
  get_ := by
    rintro ok w x _ ⟨c1, c2, rfl, h1, h2⟩
    rw [← T.len h1, ← List.drop_drop, List.drop_left]
    exact h.get_ h2
  set_ := by
    rintro ok w x _ y ds ⟨c1, c2, rfl, h1, h2⟩ h'
    refine ⟨c1, _, ?_, h1, h.set_ h2 h'⟩
    rw [← T.len h1]
    have e1 : (c1 ++ c2).take (c1.length + off) = c1 ++ c2.take off := by
      rw [List.take_append, List.take_of_length_le (by omega), Nat.add_sub_cancel_left]
    have e2 : (c1 ++ c2).drop (c1.length + off + G.sz) = c2.drop (off + G.sz) := by
      rw [Nat.add_assoc, ← List.drop_drop, List.drop_left]
    rw [e1, e2]
    simp
theorem Fld.iso {off : Nat} {get : β → γ} {set : β → γ → β} (h : Fld F G off get set) {f : α → β} {g : α → γ} {s : α → γ → α} {off' : Nat} (hg : ∀ x, g x = get (f x)) (hs : ∀ x y, f (s x y) = set (f x) y) (ho : off = off' := by rfl) : Fld (tIso F f) G off' g s where
  le := by subst ho; exact h.le
  get_ := by
    intro ok w x cs h'
    subst ho
    rw [hg]
    exact h.get_ h'
  set_ := by
    intro ok w x cs y ds h1 h2
    subst ho
    show F.R ok w (f (s x y)) _
    rw [hs]
    exact h.set_ h1 h2
theorem Fld.comp {o1 o2 : Nat} {g1 : α → β} {s1 : α → β → α} {g2 : β → γ} {s2 : β → γ → β} (h : Fld T F o1 g1 s1) (k : Fld F G o2 g2 s2) : Fld T G (o1 + o2) (fun x => g2 (g1 x)) (fun x y => s1 x (s2 (g1 x) y)) where
  le := by have := h.le; have := k.le; omega
  get_ := by
    intro ok w x cs hR
    have := k.get_ (h.get_ hR)
    rw [List.drop_take, List.drop_drop, List.take_take, Nat.min_eq_left (by have := k.le; omega)] at this
    exact this
  set_ := by
    intro ok w x cs y ds hR h'
    have h2 := h.set_ hR (k.set_ (h.get_ hR) h')
    have hl := T.len hR
    have hd := G.len h'
    have hk := k.le
    have hh := h.le
    have e : cs.take o1 ++ (((cs.drop o1).take F.sz).take o2 ++ ds ++ ((cs.drop o1).take F.sz).drop (o2 + G.sz)) ++ cs.drop (o1 + F.sz) = cs.take (o1 + o2) ++ ds ++ cs.drop (o1 + o2 + G.sz) := by
      rw [List.take_take, Nat.min_eq_left (by omega), List.drop_take, List.drop_drop]
      have a1 : cs.take (o1 + o2) = cs.take o1 ++ (cs.drop o1).take o2 := by rw [List.take_add]
      have a2 : cs.drop (o1 + o2 + G.sz) = (cs.drop (o1 + (o2 + G.sz))).take (F.sz - (o2 + G.sz)) ++ cs.drop (o1 + F.sz) := by
        conv => lhs; rw [show o1 + o2 + G.sz = o1 + (o2 + G.sz) by omega, ← List.take_append_drop (F.sz - (o2 + G.sz)) (cs.drop (o1 + (o2 + G.sz))), List.drop_drop]
        rw [show o1 + (o2 + G.sz) + (F.sz - (o2 + G.sz)) = o1 + F.sz by omega]
      rw [a1, a2]
      simp only [List.append_assoc]
    rw [← e]
    exact h2
end

section
variable {P : Program} {N : Nat} {Q : QE} {ρ : Env} {w : World} {w0 : Base} {ops : Array Oper} {rest : List Oper}
variable {d : Option Tmp} {ty : TypeId} {pos : String} {aft : Array Edge} {gd : Option (Nat × Bool)}
variable {ok0 : Nat → Prop} {Γ : List It} {Λ : List LObj}
theorem St.aggv (hs : St ok0 w0 w Γ Λ) (i : Nat) {α : Type} {A : Ty α} {x : α} {v : Value} {n : Nat} (hi : Γ[i]? = some (vl A x v)) (hA : A.agg = true) (hn : A.sz = n) : ∃ cs : List Value, cs.length = n ∧ v = .agg cs.toArray := by
  obtain ⟨ok, ds, hR, e⟩ := hs.get i hi
  rw [hA] at e
  exact ⟨ds, hn ▸ A.len hR, e⟩
theorem St.agglen (hs : St ok0 w0 w Γ Λ) (i : Nat) {α : Type} {A : Ty α} {x : α} {cs : List Value} {n : Nat} (hi : Γ[i]? = some (vl A x (.agg cs.toArray))) (hA : A.agg = true) (hn : A.sz = n) : cs.length = n := by
  obtain ⟨ok, h⟩ := hs.get i hi
  exact hn ▸ A.len (R_agg h hA)
theorem St.ones (hs : St ok0 w0 w Γ Λ) (i : Nat) {α : Type} {A : Ty α} {x : α} {cs : List Value} (hi : Γ[i]? = some (vl A x (.agg cs.toArray))) (hA : A.agg = true) : ∀ u ∈ cs, u.oneCell' = true := by
  obtain ⟨ok, h⟩ := hs.get i hi
  exact A.one (R_agg h hA)
theorem ones_of {l : List Value} (h : (l.all fun u => u.oneCell') = true) : ∀ u ∈ l, u.oneCell' = true := by simpa using h
theorem ones_app {l k : List Value} (h : ∀ u ∈ l, u.oneCell' = true) (h' : ∀ u ∈ k, u.oneCell' = true) : ∀ u ∈ l ++ k, u.oneCell' = true := fun u hu => (List.mem_append.1 hu).elim (h u) (h' u)
theorem res_one (hs : St ok0 w0 w Γ Λ) (i : Nat) {g : Nat} {T t : TypeId} {cs : List Value} {sz : Nat} {p : Tmp} {v : Value} (hi : Λ[i]? = some (blk g T cs)) (ht : TI P t false sz) (h : ρ p = .pointer (some ⟨g, 0, none⟩)) (hv : cs[0]? = some v) : resVal P ρ w v (.cell p t) :=
  ⟨_, h, run_loadVar1 ht ((blk_cell (hs.blk_at i hi) 0).trans hv)⟩
theorem res_all (hs : St ok0 w0 w Γ Λ) (i : Nat) {g : Nat} {T t : TypeId} {cs : List Value} {sz : Nat} {p : Tmp} (hi : Λ[i]? = some (blk g T cs)) (ht : TI P t true sz) (h : ρ p = .pointer (some ⟨g, 0, none⟩)) (hl : cs.length = sz) : resVal P ρ w (.agg cs.toArray) (.cell p t) :=
  ⟨_, h, run_loadVarN ht hl fun k u hu => by rw [blk_cell (hs.blk_at i hi), Nat.zero_add]; exact hu⟩
theorem WL.loadAll {t : TypeId} {x : Operand} {g : Nat} {T : TypeId} {cs : List Value} {sz : Nat} (hs : St ok0 w0 w Γ Λ) (i : Nat) (hi : Λ[i]? = some (blk g T cs)) (ht : TI P t true sz)
    (hx : ρ.ev x = .pointer (some ⟨g, 0, none⟩)) (hl : cs.length = sz) (K : WL P N ops Q rest (putE ρ d (.agg cs.toArray)) w)
    (hg : wantedE ops ρ ⟨d, .load t x, ty, pos, aft, gd⟩ = true := by rfl) (hd : fits N d = true := by rfl) :
    WL P N ops Q (⟨d, .load t x, ty, pos, aft, gd⟩ :: rest) ρ w :=
  WL.load_ hx (run_loadVarN ht hl fun k u hu => by rw [blk_cell (hs.blk_at i hi), Nat.zero_add]; exact hu) K hg hd
theorem WL.storeAll {t : TypeId} {a x : Operand} {agg : Bool} {sz g : Nat} {T : TypeId} {cs vs : List Value} {v : Value} (hs : St ok0 w0 w Γ Λ) (i : Nat) (hi : Λ[i]? = some (blk g T cs)) (ht : TI P t agg sz)
    (ha : ρ.ev a = .pointer (some ⟨g, 0, none⟩)) (hx : ρ.ev x = v) (hv : v.cells = vs.toArray) (hl : vs.length = sz) (h1 : ∀ u ∈ vs, u.oneCell' = true) (hb : cs.length = sz)
    (K : ∀ w', St ok0 w0 w' Γ (Λ.set i (blk g T vs)) → WL P N ops Q rest (putE ρ d undef) w')
    (hg : wantedE ops ρ ⟨d, .store t a x, ty, pos, aft, gd⟩ = true := by rfl) (hd : fits N d = true := by rfl) :
    WL P N ops Q (⟨d, .store t a x, ty, pos, aft, gd⟩ :: rest) ρ w :=
  WL.store hs i hi ht ha hx hv hl h1 (by omega) (by
    rw [setAt_eq _ _ _ (by omega), List.take_zero, Nat.zero_add, hl, ← hb, List.drop_length]; simp) K hg hd

/-! A struct written out; a slice written out. -/
def fillL (places : List (Nat × Nat)) : List (Nat × Value) → List Value → Option (List Value)
  | [], cs => some cs
  | (i, v) :: l, cs => match places[i]? with
    | none => none
    | some (off, sz) => if v.cells.toList.length = sz ∧ off + sz ≤ cs.length then fillL places l (cs.take off ++ v.cells.toList ++ cs.drop (off + sz)) else none
theorem foldl_set (off : Nat) : ∀ (vs : List Value) (k : Nat) (cs : Array Value), (vs.zipIdx k).foldl (fun cs (c, j) => cs.setIfInBounds (off + j) c) cs = (setAt cs.toList (off + k) vs).toArray
  | [], k, cs => by simp [setAt]
  | v :: vs, k, cs => by
    rw [List.zipIdx_cons, List.foldl_cons, foldl_set off vs (k + 1)]
    simp [setAt, Nat.add_assoc]
theorem fill_of {place : Nat → Option (Nat × Nat)} {places : List (Nat × Nat)} (hp : ∀ i q, places[i]? = some q → place i = some q) : ∀ (l : List (Nat × Value)) (cs : List Value) (out : List Value), fillL places l cs = some out → Instr.fill place cs.toArray l = some out.toArray
  | [], cs, out, h => by simp [fillL] at h; simp [Instr.fill, h]
  | (i, v) :: l, cs, out, h => by
    unfold fillL at h
    unfold Instr.fill
    cases hpi : places[i]? with
    | none => rw [hpi] at h; cases h
    | some q =>
      obtain ⟨off, sz⟩ := q
      rw [hpi] at h
      rw [hp i _ hpi]
      dsimp only at h ⊢
      split at h
      · rename_i hc
        have hsz : v.cells.size = sz := by simpa using hc.1
        rw [if_neg (by simp [hsz]; omega)]
        have e : v.cells.zipIdx.foldl (fun cs (c, j) => cs.setIfInBounds (off + j) c) cs.toArray = (cs.take off ++ v.cells.toList ++ cs.drop (off + sz)).toArray := by
          rw [← Array.foldl_toList, Array.toList_zipIdx, foldl_set off v.cells.toList 0 cs.toArray]
          simp only [Nat.add_zero]
          rw [setAt_eq _ _ _ (by rw [hc.1]; exact hc.2), hc.1]
        rw [e]
        exact fill_of hp l _ out h
      · cases h
/-- A struct's fields: where they lie; its zero. -/
def PL (P : Program) (t : TypeId) (places : List (Nat × Nat)) (zero : List Value) : Prop :=
  (∃ fs : Array Field, P.underlying t = some (.struct fs) ∧ ∀ w, (fs.mapM fun f => do pure (f.offset, ← sizeOf f.type) : Sem (Array (Nat × Nat))).run P w = .ok places.toArray w) ∧ ∃ z, (∀ w, (zeroValue t).run P w = .ok z w) ∧ z.cells = zero.toArray
theorem bld {t : TypeId} {places : List (Nat × Nat)} {zero cs : List Value} {vs : List (Nat × Value)} (h : PL P t places zero) (hf : fillL places vs zero = some cs) : BLD P t vs cs := by
  obtain ⟨⟨fs, hu, hp⟩, z, hz, hc⟩ := h
  intro w
  unfold Instr.build
  refine (run_bind (hz w)).trans ?_
  refine (run_bind (run_und hu w)).trans ?_
  refine (run_bind (hp w)).trans ?_
  rw [hc, fill_of (places := places) (fun i q h => by simpa using h) vs zero cs hf]
  rfl
/-- A slice written out: its element type; the element's cells; its zero. -/
def PS (P : Program) (t E : TypeId) (sz : Nat) (zero : List Value) : Prop :=
  P.underlying t = some (.slice E) ∧ (∀ w, (sizeOf E).run P w = .ok sz w) ∧ ∃ z, (∀ w, (zeroValue E).run P w = .ok z w) ∧ z.cells = zero.toArray
def fillS (sz n : Nat) (zero : List Value) (vs : List (Nat × Value)) : Option (List Value) := fillL ((List.range n).map fun i => (i * sz, sz)) vs ((List.replicate n zero).flatten)
theorem flatten_rep (zero : List Value) : ∀ n, (List.replicate n zero).flatten = (List.range (n * zero.length)).map fun i => zero[i % zero.length]!
  | 0 => by simp
  | n + 1 => by
    rw [List.replicate_succ', List.flatten_append, flatten_rep zero n]
    rw [show (n + 1) * zero.length = n * zero.length + zero.length by rw [Nat.add_mul, Nat.one_mul], List.range_add, List.map_append]
    congr 1
    simp only [List.flatten_cons, List.flatten_nil, List.append_nil, List.map_map]
    apply List.ext_getElem
    · simp
    · intro i h1 h2
      simp only [List.getElem_map, List.getElem_range, Function.comp]
      have : (n * zero.length + i) % zero.length = i := by
        rw [Nat.mul_comm, Nat.mul_add_mod, Nat.mod_eq_of_lt h1]
      rw [this]
      simp [h1]
theorem bls {t E : TypeId} {sz n : Nat} {zero cs : List Value} {vs : List (Nat × Value)} (h : PS P t E sz zero) (hn : 0 < n ∧ zero.length = sz ∧ 0 < sz ∧ n * sz ≤ 16777216) (hf : fillS sz n zero vs = some cs) : BLS P t n vs E cs := by
  obtain ⟨hu, hs, z, hz, hc⟩ := h
  obtain ⟨hn0, hl, hs0, hb⟩ := hn
  intro w
  unfold Instr.buildSlice
  refine (run_bind (run_und hu w)).trans ?_
  refine (run_bind (hs w)).trans ?_
  rw [if_neg (by omega)]
  have h0 : n * sz ≠ 0 := by
    have := Nat.mul_pos hn0 hs0; omega
  rw [if_neg h0]
  refine (run_bind (hz w)).trans ?_
  rw [hc]
  refine (run_bind (x := zero.toArray) (w' := w) rfl).trans ?_
  have e : (Array.range (n * sz)).map (fun i => zero.toArray[i % zero.toArray.size]!) = ((List.replicate n zero).flatten).toArray := by
    rw [flatten_rep, hl]
    apply Array.ext
    · simp
    · intro i h1 h2
      simp [hl]
  dsimp only
  rw [e, fill_of (places := (List.range n).map fun i => (i * sz, sz)) ?_ vs _ cs hf]
  · rfl
  · intro i q h
    rw [List.getElem?_map] at h
    obtain ⟨j, hj, e⟩ := Option.map_eq_some_iff.1 h
    obtain ⟨hlt, he⟩ := List.getElem?_eq_some_iff.1 hj
    simp at he
    subst he
    rw [← e]
theorem WL.makeFunc {f : FuncId} {caps : List Operand} {vs : List Value} (ha : Evs ρ caps vs) (K : WL P N ops Q rest (putE ρ d (.func (.func f) #[] vs.toArray)) w)
    (hg : wantedE ops ρ ⟨d, .makeFunc (.func f) #[] caps.toArray, ty, pos, aft, gd⟩ = true := by rfl) (hd : fits N d = true := by rfl) :
    WL P N ops Q (⟨d, .makeFunc (.func f) #[] caps.toArray, ty, pos, aft, gd⟩ :: rest) ρ w :=
  WL.value hg hd (v := .func (.func f) #[] vs.toArray) (w' := w) (by
    show (do pure (Next.value (← Instr.makeFunc (.func f) (#[].map ρ.ev) (caps.toArray.map ρ.ev))) : Sem Next).run P w = _
    simp only [List.map_toArray, ha.map]
    rfl) K
theorem WL.nilCheck {x : Operand} {ad : Addr} {v : Value} (hx : ρ.ev x = v) (hv : v = .pointer (some ad)) (K : WL P N ops Q rest (putE ρ d v) w)
    (hg : wantedE ops ρ ⟨d, .nilCheck x, ty, pos, aft, gd⟩ = true := by rfl) (hd : fits N d = true := by rfl) :
    WL P N ops Q (⟨d, .nilCheck x, ty, pos, aft, gd⟩ :: rest) ρ w :=
  WL.value hg hd (v := v) (w' := w) (by subst hv; simp only [execOp, hx]; rfl) K
theorem WL.nilCheckF {x : Operand} {f : FuncId} {cs : Array Value} {v : Value} (hx : ρ.ev x = v) (hv : v = .func (.func f) #[] cs) (K : WL P N ops Q rest (putE ρ d v) w)
    (hg : wantedE ops ρ ⟨d, .nilCheck x, ty, pos, aft, gd⟩ = true := by rfl) (hd : fits N d = true := by rfl) :
    WL P N ops Q (⟨d, .nilCheck x, ty, pos, aft, gd⟩ :: rest) ρ w :=
  WL.value hg hd (v := v) (w' := w) (by subst hv; simp only [execOp, hx]; rfl) K
theorem WL.convI_ {T U : TypeId} {x : Operand} {k k' : IntKind} {b e : Int} {u : TypeDesc} (hT : P.underlying T = some u) (hU : P.underlying U = some (.int k')) (hx : ρ.ev x = .int k b) (he : k'.wrap b = e)
    (K : WL P N ops Q rest (putE ρ d (.int k' e)) w)
    (hg : wantedE ops ρ ⟨d, .convert T U x, ty, pos, aft, gd⟩ = true := by rfl) (hd : fits N d = true := by rfl) :
    WL P N ops Q (⟨d, .convert T U x, ty, pos, aft, gd⟩ :: rest) ρ w := WL.convI hT hU hx (he ▸ K) hg hd
theorem WL.shl_ {T T' : TypeId} {x y : Operand} {k k' : IntKind} {a b e : Int} (hx : ρ.ev x = .int k a) (hy : ρ.ev y = .int k' b) (hb : 0 ≤ b) (he : shlI k a b = e)
    (K : WL P N ops Q rest (putE ρ d (.int k e)) w)
    (hg : wantedE ops ρ ⟨d, .binOp .shl T x y T', ty, pos, aft, gd⟩ = true := by rfl) (hd : fits N d = true := by rfl) :
    WL P N ops Q (⟨d, .binOp .shl T x y T', ty, pos, aft, gd⟩ :: rest) ρ w := WL.shl hx hy hb (he ▸ K) hg hd
theorem WL.shr_ {T T' : TypeId} {x y : Operand} {k k' : IntKind} {a b e : Int} (hx : ρ.ev x = .int k a) (hy : ρ.ev y = .int k' b) (hb : 0 ≤ b) (he : shrI k a b = e)
    (K : WL P N ops Q rest (putE ρ d (.int k e)) w)
    (hg : wantedE ops ρ ⟨d, .binOp .shr T x y T', ty, pos, aft, gd⟩ = true := by rfl) (hd : fits N d = true := by rfl) :
    WL P N ops Q (⟨d, .binOp .shr T x y T', ty, pos, aft, gd⟩ :: rest) ρ w := WL.shr hx hy hb (he ▸ K) hg hd
theorem WL.max {T T' : TypeId} {x y : Operand} {k : IntKind} {a b : Int} (hx : ρ.ev x = .int k a) (hy : ρ.ev y = .int k b) (K : WL P N ops Q rest (putE ρ d (.int k (maxI a b))) w)
    (hg : wantedE ops ρ ⟨d, .call { callee := .builtin .max, args := #[x, y], argTypes := #[T, T'] }, ty, pos, aft, gd⟩ = true := by rfl) (hd : fits N d = true := by rfl) :
    WL P N ops Q (⟨d, .call { callee := .builtin .max, args := #[x, y], argTypes := #[T, T'] }, ty, pos, aft, gd⟩ :: rest) ρ w :=
  WL.value hg hd (v := .int k (maxI a b)) (w' := w) (exec_builtin fun cs => by
    rw [List.map_toArray]
    simp only [List.map_cons, List.map_nil, hx, hy]
    rfl) K
theorem WL.min {T T' : TypeId} {x y : Operand} {k : IntKind} {a b : Int} (hx : ρ.ev x = .int k a) (hy : ρ.ev y = .int k b) (K : WL P N ops Q rest (putE ρ d (.int k (minI a b))) w)
    (hg : wantedE ops ρ ⟨d, .call { callee := .builtin .min, args := #[x, y], argTypes := #[T, T'] }, ty, pos, aft, gd⟩ = true := by rfl) (hd : fits N d = true := by rfl) :
    WL P N ops Q (⟨d, .call { callee := .builtin .min, args := #[x, y], argTypes := #[T, T'] }, ty, pos, aft, gd⟩ :: rest) ρ w :=
  WL.value hg hd (v := .int k (minI a b)) (w' := w) (exec_builtin fun cs => by
    rw [List.map_toArray]
    simp only [List.map_cons, List.map_nil, hx, hy]
    rfl) K
/-! Elements of a slice of the call's own. -/
def OwnAt (sz : Nat) (v : Value) (i : Int) (ad : Addr) : Prop := ∃ g n c, v = .slice (some ⟨g, 0, none⟩) n c ∧ ad = ⟨g, i.toNat * sz, none⟩
theorem own_some {ok : Nat → Prop} {bs : List Nat} {α : Type} {A : Ty α} {E : TypeId} {v : Value} {xs : List α} (h : (own A E v xs).H ok bs w) (h0 : 0 < xs.length) :
    ∃ g c cur, v = .slice (some ⟨g, 0, none⟩) xs.length c ∧ bs = [g] ∧ w.heap[g]? = some (.cells cur E (0, 0)) ∧ xs.length ≤ c ∧ c ≤ maxLen ∧ cur.size = c * A.sz ∧ Cells A ok w xs (cur.toList.take (xs.length * A.sz)) := by
  rcases h with ⟨_, _, h, _⟩ | ⟨_, cs, hb, how, hC⟩
  · subst h; simp at h0
  rcases how.2 with ⟨_, h1⟩ | ⟨g, cap, cur, rfl, _, hg, hc, hm, hs, ht⟩
  · omega
  · exact ⟨g, cap, cur, rfl, by simpa [Value.ownBlock] using hb, hg, hc, hm, hs, ht ▸ hC⟩
theorem WL.indexAddrO {α : Type} {A : Ty α} {xs : List α} {y : α} {T E E' : TypeId} {x z : Operand} {a : Option Addr} {c : Nat} {k : IntKind} {i : Int} {agg : Bool} {n : Nat} (hs : St ok0 w0 w Γ Λ) (m : Nat) (hm : Λ[m]? = some (own A E' (.slice a n c) xs))
    (hT : P.underlying T = some (.slice E)) (hE : TI P E agg A.sz) (hx : ρ.ev x = .slice a n c) (hz : ρ.ev z = .int k i) (hi : idx xs i = some y)
    (K : ∀ ad, OwnAt A.sz (.slice a n c) i ad → WL P N ops Q rest (putE ρ d (.pointer (some ad))) w)
    (hg : wantedE ops ρ ⟨d, .indexAddr T x z, ty, pos, aft, gd⟩ = true := by rfl) (hd : fits N d = true := by rfl) :
    WL P N ops Q (⟨d, .indexAddr T x z, ty, pos, aft, gd⟩ :: rest) ρ w := by
  obtain ⟨h0, h1, h2⟩ := idx_some hi
  obtain rfl := hs.ownLen m hm
  obtain ⟨ok, bs, ho, _⟩ := hs.split m hm
  obtain ⟨g, c', cur, e, _⟩ := own_some ho (by omega)
  cases e
  refine WL.value hg hd (v := .pointer (some ⟨g, i.toNat * A.sz, none⟩)) (w' := w) (by
    show (do pure (Next.value (← Instr.indexAt T (ρ.ev x) (ρ.ev z))) : Sem Next).run P w = _
    rw [hx, hz]
    have := run_indexAt (P := P) (w := w) (g := g) (off := 0) (c := c) (k := k) hT hE h0 h1
    rw [Nat.zero_add] at this
    exact exec_v this) (K _ ⟨g, _, _, rfl, rfl⟩)
theorem WL.loadO {α : Type} {A : Ty α} {xs : List α} {y : α} {t E : TypeId} {x : Operand} {v : Value} {i : Int} {ad : Addr} (hs : St ok0 w0 w Γ Λ) (m : Nat) (hm : Λ[m]? = some (own A E v xs)) (ht : TI P t A.agg A.sz) (h1 : A.agg = true ∨ A.sz = 1)
    (hat : OwnAt A.sz v i ad) (hi : idx xs i = some y) (hx : ρ.ev x = .pointer (some ad)) (K : ∀ u, St ok0 w0 w (vl A y u :: Γ) Λ → WL P N ops Q rest (putE ρ d u) w)
    (hg : wantedE ops ρ ⟨d, .load t x, ty, pos, aft, gd⟩ = true := by rfl) (hd : fits N d = true := by rfl) :
    WL P N ops Q (⟨d, .load t x, ty, pos, aft, gd⟩ :: rest) ρ w := by
  obtain ⟨h0, hlt, h2⟩ := idx_some hi
  obtain ⟨g, n, c, rfl, rfl⟩ := hat
  obtain ⟨hB, bss, hN, hltb, hO, hA⟩ := hs
  obtain ⟨l1, bs, l2, rfl, hl, ho, hput⟩ := Own.split m hO hm
  obtain ⟨g', c', cur, e, hb, hg', hc, hmx, hsz, hC⟩ := own_some ho (by omega)
  cases e
  have hR := hC.2 _ _ h2
  generalize hvs : ((cur.toList.take (xs.length * A.sz)).drop (i.toNat * A.sz)).take A.sz = vs at hR
  have hlen := A.len hR
  have hcell : ∀ k u, vs[k]? = some u → w.cell? ⟨g, i.toNat * A.sz + k, none⟩ = some u := by
    intro k u hu
    rw [← hvs, List.getElem?_take] at hu
    split at hu
    · rw [List.getElem?_drop, List.getElem?_take] at hu
      split at hu
      · simp only [World.cell?, hg']
        simpa using hu
      · cases hu
    · cases hu
  have hload : (loadVar t ⟨g, i.toNat * A.sz, none⟩).run P w = .ok (bif A.agg then .agg vs.toArray else vs.getD 0 undef) w := by
    rcases hag : A.agg with _ | _
    · have hsz1 := h1.resolve_left (by simp [hag])
      rw [hag] at ht
      match vs, hlen, hcell with
      | [], hl, _ => simp [hsz1] at hl
      | c :: cs', hl, hc => exact run_loadVar1 ht (hc 0 c rfl)
    · rw [hag] at ht
      exact run_loadVarN ht hlen hcell
  exact WL.load_ hx hload (K _ ⟨hB, _, hN, hltb, hO, fun it hit => by
    rcases List.mem_cons.1 hit with rfl | hit
    · exact V_one hR
    · exact hA it hit⟩) hg hd
theorem Cells.set {α : Type} {A : Ty α} {ok : Nat → Prop} {xs : List α} {cs vs : List Value} {y : α} (h : Cells A ok w xs cs) (hy : A.R ok w y vs) (j : Nat) (hj : j < xs.length) : Cells A ok w (xs.set j y) (setAt cs (j * A.sz) vs) := by
  have hl := A.len hy
  have hle : (j + 1) * A.sz ≤ xs.length * A.sz := Nat.mul_le_mul_right _ hj
  rw [Nat.add_mul, Nat.one_mul, ← h.1] at hle
  rw [setAt_eq _ _ _ (by omega), hl]
  refine ⟨?_, fun k x hk => ?_⟩
  · have := h.1
    simp only [List.length_append, List.length_take, List.length_drop, hl, List.length_set]
    omega
  · rcases Nat.lt_trichotomy k j with hkj | rfl | hkj
    · rw [List.getElem?_set_ne (by omega)] at hk
      have hR := h.2 k x hk
      have h3 : (k + 1) * A.sz ≤ j * A.sz := Nat.mul_le_mul_right _ hkj
      rw [Nat.add_mul, Nat.one_mul] at h3
      rw [List.append_assoc, List.drop_append_of_le_length (by rw [List.length_take]; omega), List.take_append_of_le_length (by rw [List.length_drop, List.length_take]; omega), List.drop_take, List.take_take, Nat.min_eq_left (by omega)]
      exact hR
    · rw [List.getElem?_set_self hj] at hk
      cases hk
      have h4 : (cs.take (k * A.sz)).length = k * A.sz := by rw [List.length_take]; omega
      have e : (cs.take (k * A.sz) ++ vs ++ cs.drop (k * A.sz + A.sz)).drop (k * A.sz) = vs ++ cs.drop (k * A.sz + A.sz) := by
        rw [List.append_assoc, List.drop_append, h4, Nat.sub_self, List.drop_zero, List.drop_of_length_le (by omega), List.nil_append]
      rw [e, ← hl, List.take_left]
      exact hy
    · rw [List.getElem?_set_ne (by omega)] at hk
      have hR := h.2 k x hk
      have h3 : (j + 1) * A.sz ≤ k * A.sz := Nat.mul_le_mul_right _ hkj
      rw [Nat.add_mul, Nat.one_mul] at h3
      have h4 : (cs.take (j * A.sz) ++ vs).length = j * A.sz + A.sz := by rw [List.length_append, List.length_take, hl]; omega
      have e : (cs.take (j * A.sz) ++ vs ++ cs.drop (j * A.sz + A.sz)).drop (k * A.sz) = cs.drop (k * A.sz) := by
        rw [List.drop_append, List.drop_of_length_le (by omega), List.nil_append, h4, List.drop_drop]
        congr 1
        omega
      rw [e]
      exact hR
theorem setCells_heap {g : Nat} {T : TypeId} {cur : Array Value} (h : w.heap[g]? = some (.cells cur T (0, 0))) (j : Nat) (vs : List Value) : (setCells w g j vs).heap[g]? = some (.cells (setAt cur.toList j vs).toArray T (0, 0)) :=
  heap_setCells vs (cs := cur.toList) (by simpa using h)
theorem setAt_take (cs vs : List Value) (n j : Nat) (h : j + vs.length ≤ n) : (setAt cs j vs).take n = setAt (cs.take n) j vs := by
  induction vs generalizing cs j with
  | nil => rfl
  | cons v vs ih =>
    simp only [List.length_cons] at h
    rw [setAt, setAt, ih _ _ (by omega), List.take_set]
theorem WL.storeO {α : Type} {A : Ty α} {xs zs : List α} {y yo : α} {t E : TypeId} {a x : Operand} {v u : Value} {i : Int} {ad : Addr} {vs : List Value} {agg : Bool} (hs : St ok0 w0 w Γ Λ) (m : Nat) (hm : Λ[m]? = some (own A E v xs)) (ht : TI P t agg A.sz)
    (hat : OwnAt A.sz v i ad) (hi : idx xs i = some yo) (ha : ρ.ev a = .pointer (some ad)) (hx : ρ.ev x = u) (hu : u.cells = vs.toArray) (hR : ∀ ok, All ok w Γ → A.R ok w y vs) (hz : xs.set i.toNat y = zs)
    (K : ∀ w', St ok0 w0 w' Γ (Λ.set m (own A E v zs)) → WL P N ops Q rest (putE ρ d undef) w')
    (hg : wantedE ops ρ ⟨d, .store t a x, ty, pos, aft, gd⟩ = true := by rfl) (hd : fits N d = true := by rfl) :
    WL P N ops Q (⟨d, .store t a x, ty, pos, aft, gd⟩ :: rest) ρ w := by
  obtain ⟨h0, hlt, h2⟩ := idx_some hi
  obtain ⟨g, n, c, rfl, rfl⟩ := hat
  obtain ⟨ok, bs, ho, hA, hn, hbs, hput⟩ := hs.split m hm
  obtain ⟨g', c', cur, e, hb, hg', hc, hmx, hsz, hC⟩ := own_some ho (by omega)
  cases e
  have hy := hR ok hA
  have hl := A.len hy
  have hbd : (i.toNat + 1) * A.sz ≤ xs.length * A.sz := Nat.mul_le_mul_right _ hlt
  rw [Nat.add_mul, Nat.one_mul] at hbd
  have hcur : xs.length * A.sz ≤ cur.size := by rw [hsz]; exact Nat.mul_le_mul_right _ hc
  have hrun := run_storeVar (P := P) ht (g := g) (j := i.toNat * A.sz) (cs := cur.toList) (T := E) (by simpa using hg') hu hl (A.one hy) (by rw [Array.length_toList]; omega)
  refine WL.unit hg hd (w' := setCells w g (i.toNat * A.sz) vs) (by
    show (do Instr.storeAt t (ρ.ev a) (ρ.ev x); pure Next.skip : Sem Next).run P w = _
    rw [ha, hx]
    exact exec_u ((run_bind (by rfl)).trans hrun)) (K _ ?_)
  have hnew := setCells_heap hg' (i.toNat * A.sz) vs
  refine hput _ [g] _ (by rw [hb]; exact off_setCells g vs w _) (by simp) (fun b hb' => ?_) fun ok' hm' => ?_
  · simp only [List.mem_singleton] at hb'
    subst hb'
    exact ⟨.inl (by rw [hb]; simp), lt_of_some hnew⟩
  · have hC2 := (hC.set hy i.toNat hlt).move hm'
    rw [hz] at hC2
    have hzl : zs.length = xs.length := by rw [← hz, List.length_set]
    refine .inr ⟨by show 0 < c; omega, _, by simp [Value.ownBlock], ⟨hC2.1, .inr ⟨g, c, _, by rw [hzl], Nat.zero_le _, hnew, by rw [hzl]; exact hc, hmx, by simp [setAt_length, hsz], ?_⟩⟩, hC2⟩
    rw [hzl, List.toList_toArray, setAt_take _ _ _ _ (by omega)]
theorem WL.indexS {T : TypeId} {x z : Operand} {s : List UInt8} {k : IntKind} {i : Int} {b : UInt8} (hT : P.underlying T = some .string) (hx : ρ.ev x = bstr s) (hz : ρ.ev z = .int k i) (hi : idx s i = some b)
    (K : WL P N ops Q rest (putE ρ d (.int .u8 (b.toNat : Int))) w)
    (hg : wantedE ops ρ ⟨d, .index T x z, ty, pos, aft, gd⟩ = true := by rfl) (hd : fits N d = true := by rfl) :
    WL P N ops Q (⟨d, .index T x z, ty, pos, aft, gd⟩ :: rest) ρ w :=
  WL.value hg hd (v := .int .u8 (b.toNat : Int)) (w' := w) (by
    show (do pure (Next.value (← Instr.index T (ρ.ev x) (ρ.ev z))) : Sem Next).run P w = _
    rw [hx, hz]
    refine exec_v ?_
    obtain ⟨h0, h1, h2⟩ := idx_some hi
    unfold Instr.index bstr
    refine (run_bind (x := (k, i)) (w' := w) rfl).trans ?_
    refine (run_bind (run_und hT w)).trans ?_
    have e : (if 0 ≤ i then (⟨s.toArray⟩ : ByteArray)[i.toNat]? else none) = some b := by
      rw [if_pos h0]
      have hlt : i.toNat < (⟨s.toArray⟩ : ByteArray).size := by simpa [ByteArray.size] using h1
      rw [getElem?_pos (⟨s.toArray⟩ : ByteArray) i.toNat hlt]
      have := (List.getElem?_eq_some_iff.1 h2).2
      rw [← this]
      simp [ByteArray.getElem_eq_getElem_data]
    dsimp only
    rw [e]
    rfl) K
/-! Regions in any order, by a list of what each operation leaves. -/
def pT : PO := ⟨fun _ _ => True, fun _ => [], fun _ => [], [], []⟩
def pv (v0 : Value) : PO := ⟨fun _ v => v = v0, fun _ => [], fun _ => [], [], []⟩
def pq {Y : Type} (val : Y → Value) (G : Value → List It) (L : Value → List LObj) : PO := ⟨fun _ v => ∃ y, v = val y, G, L, [], []⟩
/-- An operation that turns one of the call's own objects. -/
def pw (a b : LObj) : PO := ⟨fun _ _ => True, fun _ => [], fun _ => [b], [a], []⟩
/-- A value told by those of other operations. -/
def pn (needs : List Nat) (f : List Value → Value) : PO := ⟨fun r v => v = f r, fun _ => [], fun _ => [], [], needs⟩
def cellsOf : Value → List Value
  | .agg a => a.toList
  | _ => []
def poAt (l : List PO) (i : Nat) : PO := l.getD i pT
def adOf : Value → Addr
  | .pointer (some a) => a
  | _ => default
def gOf (v : Value) : Nat := (adOf v).block
def partOf : Value → Nat → Value
  | .tuple vs, i => vs.getD i undef
  | _, _ => undef
theorem getApp {α : Type _} {l1 l2 : List α} {i : Nat} {x : α} (h : l2[i]? = some x) : (l1 ++ l2)[l1.length + i]? = some x := by
  rw [List.getElem?_append_right (by omega), Nat.add_sub_cancel_left]; exact h
/-- What is known of the operations ahead, brought in. -/
theorem St.memo (hs : St ok0 w0 w Γ Λ) {Γ' : List It} (h : ∀ it ∈ Γ', it ∈ Γ) : St ok0 w0 w (Γ' ++ Γ) Λ := hs.sub fun it hi => (List.mem_append.1 hi).elim (h it) id
theorem St.memo1 (hs : St ok0 w0 w Γ Λ) {it : It} (h : it ∈ Γ) : St ok0 w0 w (it :: Γ) Λ := hs.sub fun i hi => (List.mem_cons.1 hi).elim (fun e => e ▸ h) id
theorem getApp1 {α : Type _} {l1 l2 : List α} {a : α} {i : Nat} {x : α} (h : l2[i]? = some x) : (a :: (l1 ++ l2))[l1.length + i + 1]? = some x := (List.getElem?_cons_succ).trans (getApp h)
theorem getApp2 {α : Type _} {l1 l2 : List α} {a b : α} {i : Nat} {x : α} (h : l2[i]? = some x) : (a :: b :: (l1 ++ l2))[l1.length + i + 2]? = some x := (List.getElem?_cons_succ).trans (getApp1 h)
theorem getApp3 {α : Type _} {l1 l2 : List α} {a b c : α} {i : Nat} {x : α} (h : l2[i]? = some x) : (a :: b :: c :: (l1 ++ l2))[l1.length + i + 3]? = some x := (List.getElem?_cons_succ).trans (getApp2 h)
theorem St.cutG (hs : St ok0 w0 w Γ Λ) (n k : Nat) : St ok0 w0 w (Γ.take n ++ Γ.drop (n + k)) Λ := hs.sub fun it hi => (List.mem_append.1 hi).elim List.mem_of_mem_take List.mem_of_mem_drop
/-- A variable of the call's own, by what it stands for. -/
def tbx {α : Type} (A : Ty α) (x : α) (g : Nat) (T : TypeId) : LObj where
  H := fun ok bs w => bs = [g] ∧ ∃ cs : List Value, w.heap[g]? = some (.cells cs.toArray T (0, 0)) ∧ A.R ok w x cs
  fn := by rintro _ _ _ _ _ ⟨rfl, _⟩ ⟨rfl, _⟩; rfl
  lt := by rintro _ _ _ ⟨rfl, cs, h, _⟩ b hb; simp at hb; subst hb; exact lt_of_some h
  move := by rintro _ _ _ _ _ ⟨rfl, cs, h, hR⟩ hk hm; exact ⟨rfl, cs, (hk g (by simp)).trans h, A.move hR hm⟩
theorem St.toT (hs : St ok0 w0 w Γ Λ) (i : Nat) {α : Type} {A : Ty α} {x : α} {g : Nat} {T : TypeId} {cs : List Value} (hi : Λ[i]? = some (blk g T cs)) (hR : ∀ ok, All ok w Γ → A.R ok w x cs) : St ok0 w0 w Γ (Λ.set i (tbx A x g T)) := by
  obtain ⟨ok, bs, ho, hA, hn, hbs, hput⟩ := hs.split i hi
  refine hput _ bs w (Off.refl _ _) hn (fun b hb => ⟨.inl hb, (hbs b hb).2.2⟩) fun ok' hm' => ⟨ho.1, cs, ho.2, A.move (hR ok hA) hm'⟩
theorem St.ofT (hs : St ok0 w0 w Γ Λ) (i : Nat) {α : Type} {A : Ty α} {x : α} {g n : Nat} {T : TypeId} (hi : Λ[i]? = some (tbx A x g T)) (hA : A.agg = true) (hn : A.sz = n) : ∃ cs : List Value, cs.length = n ∧ St ok0 w0 w (vl A x (.agg cs.toArray) :: Γ) (Λ.set i (blk g T cs)) := by
  obtain ⟨hB, bss, hN, hlt, hO, hAl⟩ := hs
  obtain ⟨l1, bs, l2, rfl, hl, ho, hput⟩ := Own.split i hO hi
  obtain ⟨e, cs, hc, hR⟩ := ho
  refine ⟨cs, hn ▸ A.len hR, hB, _, hN, hlt, hput _ bs _ w ⟨e, hc⟩ (fun b h _ => ⟨rfl, h⟩) (fun _ _ => rfl), fun it hit => ?_⟩
  rcases List.mem_cons.1 hit with rfl | hit
  · exact V_agg hR hA
  · exact hAl it hit
/-- An object of the call's own, brought to the front. -/
theorem St.front (hs : St ok0 w0 w Γ Λ) (i : Nat) {o : LObj} (hi : Λ[i]? = some o) : St ok0 w0 w Γ (o :: Λ.eraseIdx i) := by
  refine hs.perm ?_
  clear hs
  induction Λ generalizing i with
  | nil => simp at hi
  | cons a Λ ih =>
    cases i with
    | zero => simp at hi; subst hi; exact .refl _
    | succ i => exact ((ih i (by simpa using hi)).cons a).trans (.swap _ _ _)
/-- The object behind what is not known, turned; brought to the front. -/
theorem St.backP {Λx : List LObj} {a b : LObj} (hs : St ok0 w0 w Γ ((Λx ++ ([a] ++ Λ)).set (Λx.length + 0) b)) : St ok0 w0 w Γ ([b] ++ (Λx ++ Λ)) := by
  rw [Nat.add_zero, List.set_append_right _ _ (Nat.le_refl _), Nat.sub_self] at hs
  exact hs.perm List.perm_middle
theorem WL.callB {f : FuncId} {args : List Operand} {ats : Array TypeId} {vs : List Value} {Y : Type} {val : Y → Value} {Γr : Y → List It} (hs : St ok0 w0 w Γ Λ) (hf : FN P f) (ha : Evs ρ args vs)
    (hc : ∀ ok, All ok w Γ → Calls P f vs.toArray w fun e w' => ∃ v, e = .returned v ∧ ∃ y, v = val y ∧ St ok (bz w) w' (Γr y) [])
    (K : ∀ y w', Below w.heap.size w w' → St ok0 w0 w' (Γr y ++ Γ) Λ → WL P N ops Q rest (putE ρ d (val y)) w')
    (hg : wantedE ops ρ ⟨d, .call { callee := .value (.func f), args := args.toArray, argTypes := ats }, ty, pos, aft, gd⟩ = true := by rfl) (hd : fits N d = true := by rfl) :
    WL P N ops Q (⟨d, .call { callee := .value (.func f), args := args.toArray, argTypes := ats }, ty, pos, aft, gd⟩ :: rest) ρ w := by
  obtain ⟨ok, hA, hput⟩ := hs.call
  refine WL.enter hg hd (w' := w) (f := f) (args := vs.toArray) ?_ (hc ok hA) ?_
  · show (invoke (.fn (.func f) #[]) (#[] ++ args.toArray.map ρ.ev)).run P w = _
    rw [List.map_toArray, ha.map]
    simpa [invoke] using hf vs.toArray w
  · rintro v w' ⟨y, rfl, hs'⟩
    exact K y w' hs'.1.nil_below (hput w' _ [] hs')
theorem WL.buildSliceB {α : Type} {A : Ty α} {ys : List α} {t E : TypeId} {n : Nat} {parts : List (Nat × Operand)} {vs : List (Nat × Value)} {cs : List Value} (hs : St ok0 w0 w Γ Λ) (ha : EvsN ρ parts vs) (hb : BLS P t n vs E cs)
    (hC : ∀ ok, All ok w Γ → Cells A ok w ys cs) (hn : ys.length = n) (hm : n ≤ 9223372036854775807)
    (K : ∀ a w', Below w.heap.size w w' → St ok0 w0 w' (vl (tSlice A) ys (.slice a ys.length n) :: Γ) Λ → WL P N ops Q rest (putE ρ d (.slice a ys.length n)) w')
    (hg : wantedE ops ρ ⟨d, .buildSlice t n parts.toArray, ty, pos, aft, gd⟩ = true := by rfl) (hd : fits N d = true := by rfl) :
    WL P N ops Q (⟨d, .buildSlice t n parts.toArray, ty, pos, aft, gd⟩ :: rest) ρ w := by
  subst hn
  refine WL.value hg hd (v := .slice (some ⟨w.heap.size, 0, none⟩) ys.length ys.length) (w' := w.alloc (.cells cs.toArray E)) (by
    show (do pure (Next.value (← Instr.buildSlice t ys.length (parts.toArray.map fun (i, x) => (i, ρ.ev x)))) : Sem Next).run P w = _
    rw [List.map_toArray, ha.map]
    exact exec_v (hb w)) (K _ _ (below_alloc w _) ?_)
  rcases Nat.eq_zero_or_pos ys.length with hz | hz
  · obtain rfl := List.length_eq_zero_iff.1 hz
    exact (hs.below (below_alloc w _)).add fun ok hA => tSlice_V.2 ⟨_, _, rfl, Nat.le_refl _, .inl rfl⟩
  have h1 : St ok0 w0 (w.alloc (.cells cs.toArray E)) Γ (own A E (.slice (some ⟨w.heap.size, 0, none⟩) ys.length ys.length) ys :: Λ) :=
    hs.new (below_alloc w _) (bs := [w.heap.size]) (by simp) (by simp [size_alloc]) fun ok ok1 hA hsub => by
      have hC1 : Cells A ok (w.alloc (.cells cs.toArray E)) ys cs := (hC ok1 hA).move fun b hb hl => ⟨(below_alloc w _).block b hl, hsub b hb hl⟩
      exact .inr ⟨hz, cs, by simp [Value.ownBlock], ⟨hC1.1, .inr ⟨w.heap.size, ys.length, cs.toArray, rfl, Nat.zero_le _, heap_new w _, Nat.le_refl _, hm, by simp [hC1.1], by rw [← hC1.1]; simp⟩⟩, hC1⟩
  exact h1.freezeOwn 0 rfl
theorem WL.buildSlice0 {t E : TypeId} {sz : Nat} {agg : Bool} (hs : St ok0 w0 w Γ Λ) (hT : P.underlying t = some (.slice E)) (hE : TI P E agg sz)
    (K : ∀ a w', St ok0 w0 w' Γ Λ → WL P N ops Q rest (putE ρ d (.slice a 0 0)) w')
    (hg : wantedE ops ρ ⟨d, .buildSlice t 0 #[], ty, pos, aft, gd⟩ = true := by rfl) (hd : fits N d = true := by rfl) :
    WL P N ops Q (⟨d, .buildSlice t 0 #[], ty, pos, aft, gd⟩ :: rest) ρ w :=
  WL.value hg hd (v := .slice (some ⟨w.heap.size, 0, none⟩) 0 0) (w' := w.alloc (.cells #[] E)) (by
    show (do pure (Next.value (← Instr.buildSlice t 0 ((#[] : Array (Nat × Operand)).map fun (i, x) => (i, ρ.ev x)))) : Sem Next).run P w = _
    rw [Array.map_empty]
    refine exec_v ?_
    unfold Instr.buildSlice
    refine (run_bind (run_und hT w)).trans ?_
    refine (run_bind (hE.size_ w)).trans ?_
    rw [if_neg (by omega)]
    simp [Instr.fill, newRow, newObj, Sem.run]
    have e : (Array.map (fun _ => (default : Value)) (Array.range 0)) = #[] := by simp
    rw [e]) (K _ _ (hs.below (below_alloc w _)))
end
end Go.Proofs.YtbbeobiampbddaaL
