/- What values stand for: kinds of plain data read out of memory, and the state of a walk: what can be read and never turns, and what the call owns. -/
import Derived.Test.YtbbeobiampbddaaLa
import Derived.Below
set_option linter.unusedVariables false
set_option linter.unusedSimpArgs false
namespace Go.Proofs.YtbbeobiampbddaaL
open Go Go.RowKit

/-- A kind: its cells. ok: the blocks that it may reach. -/
structure Ty (α : Type) where
  sz : Nat
  agg : Bool
  R : (Nat → Prop) → World → α → List Value → Prop
  len : ∀ {ok : Nat → Prop} {w : World} {x : α} {cs : List Value}, R ok w x cs → cs.length = sz
  one : ∀ {ok : Nat → Prop} {w : World} {x : α} {cs : List Value}, R ok w x cs → ∀ u ∈ cs, u.oneCell' = true
  move : ∀ {ok ok' : Nat → Prop} {w w' : World} {x : α} {cs : List Value}, R ok w x cs →
    (∀ b, ok b → b < w.heap.size → w'.heap[b]? = w.heap[b]? ∧ ok' b) → R ok' w' x cs

def Ty.V {α : Type} (T : Ty α) (ok : Nat → Prop) (w : World) (x : α) (v : Value) : Prop :=
  ∃ cs, T.R ok w x cs ∧ v = bif T.agg then .agg cs.toArray else cs.getD 0 undef
theorem Ty.V.move {α : Type} {T : Ty α} {ok ok' : Nat → Prop} {w w' : World} {x : α} {v : Value} (h : T.V ok w x v)
    (hm : ∀ b, ok b → b < w.heap.size → w'.heap[b]? = w.heap[b]? ∧ ok' b) : T.V ok' w' x v := by
  obtain ⟨cs, h, e⟩ := h
  exact ⟨cs, T.move h hm, e⟩

def tInt (k : IntKind) : Ty Int where
  sz := 1
  agg := false
  R := fun _ _ x cs => cs = [.int k x]
  len := by rintro _ _ _ _ rfl; rfl
  one := by rintro _ _ _ _ rfl u hu; simp at hu; subst hu; rfl
  move := fun h _ => h
def tBool : Ty Bool where
  sz := 1
  agg := false
  R := fun _ _ x cs => cs = [.bool x]
  len := by rintro _ _ _ _ rfl; rfl
  one := by rintro _ _ _ _ rfl u hu; simp at hu; subst hu; rfl
  move := fun h _ => h
/-- A string, by its bytes. -/
def bstr (l : List UInt8) : Value := .string ⟨l.toArray⟩
def tStr : Ty (List UInt8) where
  sz := 1
  agg := false
  R := fun _ _ x cs => cs = [bstr x]
  len := by rintro _ _ _ _ rfl; rfl
  one := by rintro _ _ _ _ rfl u hu; simp at hu; subst hu; rfl
  move := fun h _ => h

theorem tInt_V {k : IntKind} {ok : Nat → Prop} {w : World} {x : Int} {v : Value} : (tInt k).V ok w x v ↔ v = .int k x :=
  ⟨by rintro ⟨_, rfl, h⟩; exact h, fun h => ⟨_, rfl, h⟩⟩
theorem tBool_V {ok : Nat → Prop} {w : World} {x : Bool} {v : Value} : tBool.V ok w x v ↔ v = .bool x :=
  ⟨by rintro ⟨_, rfl, h⟩; exact h, fun h => ⟨_, rfl, h⟩⟩
theorem tStr_V {ok : Nat → Prop} {w : World} {x : List UInt8} {v : Value} : tStr.V ok w x v ↔ v = bstr x :=
  ⟨by rintro ⟨_, rfl, h⟩; exact h, fun h => ⟨_, rfl, h⟩⟩

/-- Elements one behind the other, from an address on. -/
def Row {α : Type} (T : Ty α) (ok : Nat → Prop) (w : World) (a : Option Addr) (xs : List α) : Prop :=
  xs = [] ∨ ∃ g off, a = some ⟨g, off, none⟩ ∧ ok g ∧ g < w.heap.size ∧
    ∀ j x, xs[j]? = some x → ∃ cs, T.R ok w x cs ∧ ∀ i u, cs[i]? = some u → w.cell? ⟨g, off + j * T.sz + i, none⟩ = some u
theorem cell_same {w w' : World} {g i : Nat} (h : w'.heap[g]? = w.heap[g]?) : w'.cell? ⟨g, i, none⟩ = w.cell? ⟨g, i, none⟩ := by
  simp only [World.cell?, h]
theorem lt_of_some {w : World} {g : Nat} {o : Obj} (h : w.heap[g]? = some o) : g < w.heap.size := (Array.getElem?_eq_some_iff.1 h).1
theorem Row.move {α : Type} {T : Ty α} {ok ok' : Nat → Prop} {w w' : World} {a : Option Addr} {xs : List α} (h : Row T ok w a xs)
    (hm : ∀ b, ok b → b < w.heap.size → w'.heap[b]? = w.heap[b]? ∧ ok' b) : Row T ok' w' a xs := by
  rcases h with h | ⟨g, off, rfl, hg, hlt, hc⟩
  · exact .inl h
  · obtain ⟨hs, hg'⟩ := hm g hg hlt
    refine .inr ⟨g, off, rfl, hg', ?_, fun j x hx => ?_⟩
    · have : w.heap[g]? = some w.heap[g] := Array.getElem?_eq_getElem hlt
      exact lt_of_some (hs.trans this)
    · obtain ⟨cs, hR, hcs⟩ := hc j x hx
      exact ⟨cs, T.move hR hm, fun i u hu => (cell_same hs).trans (hcs i u hu)⟩

def tSlice {α : Type} (T : Ty α) : Ty (List α) where
  sz := 1
  agg := false
  R := fun ok w xs cs => ∃ a c, cs = [.slice a xs.length c] ∧ xs.length ≤ c ∧ Row T ok w a xs
  len := by rintro _ _ _ _ ⟨a, c, rfl, _⟩; rfl
  one := by rintro _ _ _ _ ⟨a, c, rfl, _⟩ u hu; simp at hu; subst hu; rfl
  move := by
    rintro ok ok' w w' xs cs ⟨a, c, rfl, hc, hr⟩ hm
    exact ⟨a, c, rfl, hc, hr.move hm⟩
theorem tSlice_V {α : Type} {T : Ty α} {ok : Nat → Prop} {w : World} {xs : List α} {v : Value} :
    (tSlice T).V ok w xs v ↔ ∃ a c, v = .slice a xs.length c ∧ xs.length ≤ c ∧ Row T ok w a xs :=
  ⟨by rintro ⟨_, ⟨a, c, rfl, hc, hr⟩, h⟩; exact ⟨a, c, h, hc, hr⟩, by rintro ⟨a, c, rfl, hc, hr⟩; exact ⟨_, ⟨a, c, rfl, hc, hr⟩, rfl⟩⟩

def tPair {α β : Type} (A : Ty α) (B : Ty β) : Ty (α × β) where
  sz := A.sz + B.sz
  agg := true
  R := fun ok w x cs => ∃ c1 c2, cs = c1 ++ c2 ∧ A.R ok w x.1 c1 ∧ B.R ok w x.2 c2
  len := by rintro _ _ _ _ ⟨c1, c2, rfl, h1, h2⟩; rw [List.length_append, A.len h1, B.len h2]
  one := by
    rintro _ _ _ _ ⟨c1, c2, rfl, h1, h2⟩ u hu
    rcases List.mem_append.1 hu with h | h
    · exact A.one h1 u h
    · exact B.one h2 u h
  move := by
    rintro _ _ _ _ _ _ ⟨c1, c2, rfl, h1, h2⟩ hm
    exact ⟨c1, c2, rfl, A.move h1 hm, B.move h2 hm⟩
/-- A struct: its fields' kinds, and how they are read off. -/
def tIso {α β : Type} (B : Ty β) (f : α → β) : Ty α where
  sz := B.sz
  agg := true
  R := fun ok w x cs => B.R ok w (f x) cs
  len := fun h => B.len h
  one := fun h => B.one h
  move := fun h hm => B.move h hm

/-- A field: where its cells lie. -/
structure Fld {α β : Type} (T : Ty α) (F : Ty β) (off : Nat) (get : α → β) (set : α → β → α) : Prop where
  le : off + F.sz ≤ T.sz
  get_ : ∀ {ok : Nat → Prop} {w : World} {x : α} {cs : List Value}, T.R ok w x cs → F.R ok w (get x) ((cs.drop off).take F.sz)
  set_ : ∀ {ok : Nat → Prop} {w : World} {x : α} {cs : List Value} {y : β} {ds : List Value}, T.R ok w x cs → F.R ok w y ds →
    T.R ok w (set x y) (cs.take off ++ ds ++ cs.drop (off + F.sz))

/-! What can be read and never turns. -/
structure It where
  {α : Type}
  T : Ty α
  x : α
  at_ : Value ⊕ Addr
def It.holds (it : It) (ok : Nat → Prop) (w : World) : Prop :=
  match it.at_ with
  | .inl v => it.T.V ok w it.x v
  | .inr ad => ad.spot = none ∧ ok ad.block ∧ ad.block < w.heap.size ∧ ∃ cs, it.T.R ok w it.x cs ∧ ∀ i u, cs[i]? = some u → w.cell? ⟨ad.block, ad.off + i, none⟩ = some u
/-- A value. -/
abbrev vl {α : Type} (T : Ty α) (x : α) (v : Value) : It := ⟨T, x, .inl v⟩
/-- A place. -/
abbrev pl {α : Type} (T : Ty α) (x : α) (ad : Addr) : It := ⟨T, x, .inr ad⟩
theorem It.holds.move {it : It} {ok ok' : Nat → Prop} {w w' : World} (h : it.holds ok w)
    (hm : ∀ b, ok b → b < w.heap.size → w'.heap[b]? = w.heap[b]? ∧ ok' b) : it.holds ok' w' := by
  obtain ⟨T, x, a⟩ := it
  cases a with
  | inl v => exact Ty.V.move h hm
  | inr ad =>
    obtain ⟨h0, hg, hlt, cs, hR, hc⟩ := h
    obtain ⟨hs, hg'⟩ := hm _ hg hlt
    refine ⟨h0, hg', lt_of_some (hs.trans (Array.getElem?_eq_getElem hlt)), cs, T.move hR hm, fun i u hu => (cell_same hs).trans (hc i u hu)⟩

def All (ok : Nat → Prop) (w : World) (Γ : List It) : Prop := ∀ it ∈ Γ, it.holds ok w
theorem All.get {ok : Nat → Prop} {w : World} {Γ : List It} (h : All ok w Γ) (i : Nat) {it : It} (hi : Γ[i]? = some it) : it.holds ok w :=
  h it (List.mem_of_getElem? hi)
theorem All.move {Γ : List It} {ok ok' : Nat → Prop} {w w' : World} (h : All ok w Γ)
    (hm : ∀ b, ok b → b < w.heap.size → w'.heap[b]? = w.heap[b]? ∧ ok' b) : All ok' w' Γ := fun it hi => (h it hi).move hm

/-! What the call owns. -/
structure LObj where
  H : (Nat → Prop) → List Nat → World → Prop
  fn : ∀ {ok ok' : Nat → Prop} {bs bs' : List Nat} {w : World}, H ok bs w → H ok' bs' w → bs = bs'
  lt : ∀ {ok : Nat → Prop} {bs : List Nat} {w : World}, H ok bs w → ∀ b ∈ bs, b < w.heap.size
  move : ∀ {ok ok' : Nat → Prop} {bs : List Nat} {w w' : World}, H ok bs w → (∀ b ∈ bs, w'.heap[b]? = w.heap[b]?) →
    (∀ b, ok b → b < w.heap.size → w'.heap[b]? = w.heap[b]? ∧ ok' b) → H ok' bs w'
def blk (g : Nat) (T : TypeId) (cs : List Value) : LObj where
  H := fun _ bs w => bs = [g] ∧ w.heap[g]? = some (.cells cs.toArray T (0, 0))
  fn := by rintro _ _ _ _ _ ⟨rfl, _⟩ ⟨rfl, _⟩; rfl
  lt := by rintro _ _ _ ⟨rfl, h⟩ b hb; simp at hb; subst hb; exact lt_of_some h
  move := by rintro _ _ _ _ _ ⟨rfl, h⟩ hk _; exact ⟨rfl, (hk g (by simp)).trans h⟩

/-- The cells of a list of elements. -/
def Cells {α : Type} (T : Ty α) (ok : Nat → Prop) (w : World) (xs : List α) (cs : List Value) : Prop :=
  cs.length = xs.length * T.sz ∧ ∀ j x, xs[j]? = some x → T.R ok w x ((cs.drop (j * T.sz)).take T.sz)
theorem Cells.move {α : Type} {T : Ty α} {ok ok' : Nat → Prop} {w w' : World} {xs : List α} {cs : List Value} (h : Cells T ok w xs cs)
    (hm : ∀ b, ok b → b < w.heap.size → w'.heap[b]? = w.heap[b]? ∧ ok' b) : Cells T ok' w' xs cs :=
  ⟨h.1, fun j x hx => T.move (h.2 j x hx) hm⟩
def slCap : Value → Nat
  | .slice _ _ c => c
  | _ => 0
/-- A slice of the call's own; or one that has no element and no room. -/
def own {α : Type} (T : Ty α) (E : TypeId) (v : Value) (xs : List α) : LObj where
  H := fun ok bs w => (slCap v = 0 ∧ bs = [] ∧ xs = [] ∧ ∃ a, v = .slice a 0 0) ∨ (0 < slCap v ∧ ∃ cs, bs = v.ownBlock.toList ∧ w.ownsRow 0 E T.sz v xs.length cs ∧ Cells T ok w xs cs)
  fn := by
    rintro _ _ _ _ _ (⟨h0, rfl, _⟩ | ⟨h0, _, rfl, _⟩) (⟨h0', rfl, _⟩ | ⟨h0', _, rfl, _⟩)
    · rfl
    · omega
    · omega
    · rfl
  lt := by
    rintro _ _ w (⟨_, rfl, _⟩ | ⟨_, cs, rfl, h, _⟩) b hb
    · cases hb
    · exact (h.lt b (by simpa using hb)).2
  move := by
    rintro _ _ _ w w' (h | ⟨h0, cs, rfl, h, hc⟩) hk hm
    · exact .inl h
    · refine .inr ⟨h0, cs, rfl, ⟨h.1, ?_⟩, hc.move hm⟩
      rcases h.2 with hn | ⟨g, cap, cur, rfl, hb, hg, hrest⟩
      · exact .inl hn
      · exact .inr ⟨g, cap, cur, rfl, hb, (hk g (by simp [Value.ownBlock])).trans hg, hrest⟩

def Own (ok : Nat → Prop) (w : World) : List LObj → List (List Nat) → Prop
  | [], [] => True
  | o :: Λ, bs :: bss => o.H ok bs w ∧ Own ok w Λ bss
  | _, _ => False
/-- w' is w, but for the blocks of a list, and new ones. -/
structure Off (bs : List Nat) (w w' : World) : Prop where
  os : w'.os = w.os
  tape : w'.tape = w.tape
  output : w'.output = w.output
  size : w.heap.size ≤ w'.heap.size
  block : ∀ k, k < w.heap.size → k ∉ bs → w'.heap[k]? = w.heap[k]?
/-- Where a walk began: the world, and the blocks of it that it was given to turn. -/
structure Base where
  w : World
  bs : List Nat
/-- A walk that was given nothing to turn. -/
abbrev bz (w : World) : Base := ⟨w, []⟩
def reg (ok0 : Nat → Prop) (w0 : Base) (L : List Nat) : Nat → Prop := fun b => (ok0 b ∨ b ∈ w0.bs ∨ w0.w.heap.size ≤ b) ∧ b ∉ L

/-- The state of a walk that began in w0 and stands in w. -/
def St (ok0 : Nat → Prop) (w0 : Base) (w : World) (Γ : List It) (Λ : List LObj) : Prop :=
  Off w0.bs w0.w w ∧ ∃ bss : List (List Nat), bss.flatten.Nodup ∧ (∀ b ∈ bss.flatten, (b ∈ w0.bs ∨ w0.w.heap.size ≤ b) ∧ b < w.heap.size) ∧
    Own (reg ok0 w0 bss.flatten) w Λ bss ∧ All (reg ok0 w0 bss.flatten) w Γ

theorem Own.move {ok ok' : Nat → Prop} {w w' : World} (hm : ∀ b, ok b → b < w.heap.size → w'.heap[b]? = w.heap[b]? ∧ ok' b) : ∀ {Λ : List LObj} {bss : List (List Nat)},
    Own ok w Λ bss → (∀ b ∈ bss.flatten, w'.heap[b]? = w.heap[b]?) → Own ok' w' Λ bss
  | [], [], _, _ => trivial
  | o :: Λ, bs :: bss, ⟨h, hr⟩, hk => ⟨o.move h (fun b hb => hk b (by simp [hb])) hm, Own.move hm hr fun b hb => hk b (by
      rw [List.flatten_cons]; exact List.mem_append.2 (.inr hb))⟩
  | [], _ :: _, h, _ => h.elim
  | _ :: _, [], h, _ => h.elim
theorem Own.lt {ok : Nat → Prop} {w : World} : ∀ {Λ : List LObj} {bss : List (List Nat)}, Own ok w Λ bss → ∀ b ∈ bss.flatten, b < w.heap.size
  | [], [], _, _, hb => by simp at hb
  | o :: Λ, bs :: bss, ⟨h, hr⟩, b, hb => by
    rw [List.flatten_cons] at hb
    rcases List.mem_append.1 hb with hb | hb
    · exact o.lt h b hb
    · exact Own.lt hr b hb
  | [], _ :: _, h, _, _ => h.elim
  | _ :: _, [], h, _, _ => h.elim
/-- The object at a place of the list, taken out. -/
theorem Own.split {ok : Nat → Prop} {w : World} : ∀ {Λ : List LObj} {bss : List (List Nat)} (i : Nat) {o : LObj}, Own ok w Λ bss → Λ[i]? = some o →
    ∃ l1 bs l2, bss = l1 ++ bs :: l2 ∧ l1.length = i ∧ o.H ok bs w ∧ ∀ (o' : LObj) (bs' : List Nat) (ok' : Nat → Prop) (w' : World), o'.H ok' bs' w' →
      (∀ b, ok b → b < w.heap.size → w'.heap[b]? = w.heap[b]? ∧ ok' b) → (∀ b ∈ l1.flatten ++ l2.flatten, w'.heap[b]? = w.heap[b]?) → Own ok' w' (Λ.set i o') (l1 ++ bs' :: l2)
  | [], _, i, _, _, hi => by simp at hi
  | _ :: _, [], _, _, h, _ => h.elim
  | o :: Λ, bs :: bss, 0, o1, ⟨h, hr⟩, hi => by
    simp at hi
    subst hi
    exact ⟨[], bs, bss, rfl, rfl, h, fun o' bs' ok' w' h' hm hk => ⟨h', Own.move hm hr fun b hb => hk b (by simpa using hb)⟩⟩
  | o :: Λ, bs :: bss, i + 1, o1, ⟨h, hr⟩, hi => by
    obtain ⟨l1, bs1, l2, rfl, hl, ho, hput⟩ := Own.split i hr (by simpa using hi)
    refine ⟨bs :: l1, bs1, l2, rfl, by simp [hl], ho, fun o' bs' ok' w' h' hm hk => ⟨o.move h (fun b hb => hk b (by simp [hb])) hm, hput o' bs' ok' w' h' hm fun b hb => hk b ?_⟩⟩
    rcases List.mem_append.1 hb with hb | hb
    · simp only [List.flatten_cons, List.append_assoc, List.mem_append]; exact .inr (.inl hb)
    · simp only [List.flatten_cons, List.append_assoc, List.mem_append]; exact .inr (.inr hb)
end Go.Proofs.YtbbeobiampbddaaL
