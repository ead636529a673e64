/- The row's frame: arguments read as plain data. -/
import Derived.Test.YtbbeobiampbddaaLp
import Derived.ProofKit
import Derived.OpenShut
import Derived.ChangeOld
import Derived.Below
import Derived.ChangeArms
set_option linter.unusedVariables false
set_option linter.unusedSimpArgs false
namespace Go.Proofs.YtbbeobiampbddaaL
open Go Go.RowKit Go.ChangeShapes Go.WideShapes Go.ChangeAt

def RdAt (P : Program) (t : TypeId) {α : Type} (T : Ty α) (Wf : α → Prop) : Prop :=
  ∀ (H : Type) (enc : TypeId × Value → H) (w : World) (spare : Nat → Bool) (held : Bool) (fuel : Nat) (cs : List Value) (x : DataW H × List MemPlace), DataW.trod enc P w 0 spare held fuel t cs = some x → ∃ y, T.R (fun b => b < w.heap.size) w y cs ∧ Wf y
def wInt (k : IntKind) : Int → Prop := fun x => (Lit.int k x).wf = true
def wBool : Bool → Prop := fun _ => True
def wStr : List UInt8 → Prop := fun s => s.length ≤ 9223372036854775807
def wSlice {α : Type} (W : α → Prop) : List α → Prop := fun xs => xs.length ≤ 9223372036854775807 ∧ ∀ x ∈ xs, W x
def wPair {α β : Type} (A : α → Prop) (B : β → Prop) : α × β → Prop := fun x => A x.1 ∧ B x.2
def wIso {α β : Type} (f : α → β) (B : β → Prop) : α → Prop := fun x => B (f x)
section
variable {P : Program}
theorem rdInt {t : TypeId} {k : IntKind} (h : P.underlying t = some (.int k)) : RdAt P t (tInt k) (wInt k) := by
  intro H enc w spare held fuel cs x hx
  obtain ⟨n, h1, h2, h3⟩ := DataW.trod_int h hx
  exact ⟨n, h1, h3⟩
theorem rdBool {t : TypeId} (h : P.underlying t = some .bool) : RdAt P t tBool wBool := by
  intro H enc w spare held fuel cs x hx
  obtain ⟨n, h1, h2⟩ := DataW.trod_bool h hx
  exact ⟨n, h1, trivial⟩
theorem rdStr {t : TypeId} (h : P.underlying t = some .string) : RdAt P t tStr wStr := by
  intro H enc w spare held fuel cs x hx
  obtain ⟨s, h1, h2, h3⟩ := DataW.trod_string h hx
  refine ⟨s.data.toList, ?_, ?_⟩
  · show cs = [bstr s.data.toList]
    rw [h1]
    simp [bstr]
  · show s.data.toList.length ≤ _
    rw [Array.length_toList]
    exact h3
theorem rdSlice {t e : TypeId} {α : Type} {T : Ty α} {W : α → Prop} (h : P.underlying t = some (.slice e)) (he : RdAt P e T W) (hc : P.cellsOf e = T.sz) (h0 : 0 < T.sz) : RdAt P t (tSlice T) (wSlice W) := by
  intro H enc w spare held fuel cs x hx
  rcases DataW.trod_slice h hx with ⟨h1, _⟩ | ⟨a, len, cap, elems, rest, n, rfl, h1, _, _, hlc, hcm, hel, hget, _⟩
  · exact ⟨[], ⟨none, 0, h1, Nat.le_refl _, .inl rfl⟩, ⟨by simp, by simp⟩⟩
  · rw [hc] at hget
    have step : ∀ m, m ≤ len → ∃ xs : List α, xs.length = m ∧ (∀ x ∈ xs, W x) ∧ ∀ j x, xs[j]? = some x → ∃ cs, T.R (fun b => b < w.heap.size) w x cs ∧ w.cells? 0 (a.add (j * T.sz)) T.sz = some cs := by
      intro m
      induction m with
      | zero => exact fun _ => ⟨[], rfl, by simp, by simp⟩
      | succ m ih =>
        intro hm
        obtain ⟨xs, hl, hw, hr⟩ := ih (by omega)
        have hg := hget m (by omega)
        have hes : elems[m]? = some elems[m] := List.getElem?_eq_getElem (by omega)
        rw [hes] at hg
        obtain ⟨cs, hcs, htr⟩ := Option.bind_eq_some_iff.1 hg
        obtain ⟨y, hy, hyw⟩ := he H enc w spare held n cs _ htr
        refine ⟨xs ++ [y], by simp [hl], fun x hx => ?_, fun j x hj => ?_⟩
        · rcases List.mem_append.1 hx with hx | hx
          · exact hw x hx
          · simp at hx; subst hx; exact hyw
        · rcases Nat.lt_or_ge j xs.length with h | h
          · rw [List.getElem?_append_left h] at hj
            exact hr j x hj
          · rw [List.getElem?_append_right h] at hj
            have hj0 : j = m := by
              have := (List.getElem?_eq_some_iff.1 hj).1
              simp at this
              omega
            subst hj0
            rw [hl, Nat.sub_self] at hj
            simp at hj
            subst hj
            exact ⟨cs, hy, hcs⟩
    obtain ⟨xs, hl, hw, hr⟩ := step len (Nat.le_refl _)
    refine ⟨xs, ⟨some a, cap, by rw [hl]; exact h1, by omega, ?_⟩, ⟨by rw [hl]; simp only [maxLen] at hcm; omega, hw⟩⟩
    rcases Nat.eq_zero_or_pos xs.length with hz | hz
    · exact .inl (List.length_eq_zero_iff.1 hz)
    · have hspot : a.spot = none := by
        obtain ⟨cs, hR, hc2⟩ := hr 0 _ (List.getElem?_eq_getElem hz)
        have hlen := T.len hR
        obtain ⟨_, _, hcell⟩ := World.cells?_some hc2
        have := hcell 0 (by omega)
        rw [List.getElem?_eq_getElem (by omega)] at this
        have h3 := World.cell?_spot this
        rw [Nat.zero_mul] at h3
        revert h3
        unfold Addr.add
        obtain ⟨b, o, sp⟩ := a
        cases sp <;> simp
      obtain ⟨b, off, sp⟩ := a
      simp only at hspot
      subst hspot
      have hlt : b < w.heap.size := by
        obtain ⟨cs, hR, hc2⟩ := hr 0 _ (List.getElem?_eq_getElem hz)
        have := World.cells?_block hc2 h0
        rwa [addr_add] at this
      refine .inr ⟨b, off, rfl, hlt, hlt, fun j x hj => ?_⟩
      obtain ⟨cs, hR, hc2⟩ := hr j x hj
      refine ⟨cs, hR, fun i u hu => ?_⟩
      obtain ⟨_, _, hcell⟩ := World.cells?_some hc2
      have hi := (List.getElem?_eq_some_iff.1 hu).1
      have := hcell i (by rw [T.len hR] at hi; exact hi)
      rw [addr_add, addr_add, hu] at this
      exact this

/-- The fields of a struct, from one on. -/
def RdF (P : Program) (off : Nat) (fs : List Field) {α : Type} (T : Ty α) (Wf : α → Prop) : Prop :=
  ∀ (H : Type) (enc : TypeId × Value → H) (w : World) (spare : Nat → Bool) (held : Bool) (fuel : Nat) (cs : List Value), cs.length = T.sz →
    (∀ f ∈ fs, ∃ x, DataW.trod enc P w 0 spare held fuel f.type ((cs.drop (f.offset - off)).take (P.cellsOf f.type)) = some x) → ∃ y, T.R (fun b => b < w.heap.size) w y cs ∧ Wf y
theorem RdF.one {off : Nat} {f : Field} {α : Type} {T : Ty α} {W : α → Prop} (h : RdAt P f.type T W) (ho : f.offset = off) (hc : P.cellsOf f.type = T.sz) : RdF P off [f] T W := by
  intro H enc w spare held fuel cs hl hx
  obtain ⟨x, hx⟩ := hx f (by simp)
  rw [ho, Nat.sub_self, List.drop_zero, hc, ← hl, List.take_length] at hx
  exact h H enc w spare held fuel cs x hx
theorem RdF.cons {off off' : Nat} {f : Field} {fs : List Field} {α β : Type} {A : Ty α} {B : Ty β} {W : α → Prop} {V : β → Prop} (h : RdAt P f.type A W) (ho : f.offset = off) (hc : P.cellsOf f.type = A.sz) (hr : RdF P off' fs B V)
    (hoff : off' = off + A.sz) (hall : (fs.all fun g => Nat.ble off' g.offset) = true) : RdF P off (f :: fs) (tPair A B) (wPair W V) := by
  intro H enc w spare held fuel cs hl hx
  have hl' : cs.length = A.sz + B.sz := hl
  obtain ⟨x, hx1⟩ := hx f (by simp)
  rw [ho, Nat.sub_self, List.drop_zero, hc] at hx1
  obtain ⟨y1, h1, w1⟩ := h H enc w spare held fuel _ x hx1
  obtain ⟨y2, h2, w2⟩ := hr H enc w spare held fuel (cs.drop A.sz) (by rw [List.length_drop]; omega) fun g hg => by
    obtain ⟨x, hx2⟩ := hx g (by simp [hg])
    have hle : off' ≤ g.offset := by
      have := List.all_eq_true.1 hall g hg
      simpa using this
    refine ⟨x, ?_⟩
    rw [List.drop_drop]
    rw [show A.sz + (g.offset - off') = g.offset - off by omega]
    exact hx2
  exact ⟨(y1, y2), ⟨_, _, (List.take_append_drop A.sz cs).symm, h1, h2⟩, w1, w2⟩
theorem rdStruct {t : TypeId} {fs : Array Field} {α β : Type} {B : Ty β} {V : β → Prop} (f : α → β) (g : β → α) (hfg : ∀ y, f (g y) = y) (h : P.underlying t = some (.struct fs)) (hr : RdF P 0 fs.toList B V) (hc : P.cellsOf t = B.sz) : RdAt P t (tIso B f) (wIso f V) := by
  intro H enc w spare held fuel cs x hx
  obtain ⟨xs, n, rfl, _, hl, hxl, hget⟩ := DataW.trod_struct h hx
  obtain ⟨y, h1, h2⟩ := hr H enc w spare held n cs (by rw [hl, hc]) fun fd hfd => by
    obtain ⟨i, hi⟩ := List.mem_iff_getElem?.1 hfd
    have hi' : fs[i]? = some fd := by rw [← Array.getElem?_toList]; exact hi
    have := hget i fd hi'
    have hlt : i < fs.size := (Array.getElem?_eq_some_iff.1 hi').1
    refine ⟨xs[i]'(by omega), ?_⟩
    rw [Nat.sub_zero, this, List.getElem?_eq_getElem]
  refine ⟨g y, ?_, ?_⟩
  · show B.R _ w (f (g y)) cs
    rw [hfg]
    exact h1
  · show V (f (g y))
    rw [hfg]
    exact h2
/-- A slice that came in. -/
theorem arg_slice {H : Type} {enc : TypeId × Value → H} {W : World} {sp : Nat → Bool} {held : Bool} {t : TypeId} {a : Option Addr} {n c : Nat} {d : DataW H} {p : List MemPlace} {α : Type} {T : Ty α} {Wf : List α → Prop} (hr : RdAt P t (tSlice T) Wf)
    (h : DataW.Trod enc P W 0 sp held t (.slice a n c) d p) : ∃ xs : List α, n = xs.length ∧ (vl (tSlice T) xs (.slice a xs.length c)).holds (fun b => b < W.heap.size) W ∧ Wf xs := by
  obtain ⟨fuel, hf⟩ := h
  obtain ⟨xs, ⟨a', c', e, h1, h2⟩, h3⟩ := hr _ _ _ _ _ _ _ _ hf
  simp only [Value.cells, List.cons.injEq, and_true] at e
  injection e with e1 e2 e3
  subst e1; subst e2; subst e3
  exact ⟨xs, rfl, tSlice_V.2 ⟨_, _, rfl, h1, h2⟩, h3⟩
/-- A struct that came in. -/
theorem arg_struct {H : Type} {enc : TypeId × Value → H} {W : World} {sp : Nat → Bool} {held : Bool} {t : TypeId} {cs : Array Value} {d : DataW H} {p : List MemPlace} {α : Type} {T : Ty α} {Wf : α → Prop} (ha : T.agg = true) (hr : RdAt P t T Wf)
    (h : DataW.Trod enc P W 0 sp held t (.agg cs) d p) : ∃ x : α, (vl T x (.agg cs)).holds (fun b => b < W.heap.size) W ∧ Wf x := by
  obtain ⟨fuel, hf⟩ := h
  obtain ⟨x, h1, h2⟩ := hr _ _ _ _ _ _ _ _ hf
  exact ⟨x, ⟨_, h1, by rw [ha]; rfl⟩, h2⟩
/-- A string that came in. -/
theorem arg_str {H : Type} {enc : TypeId × Value → H} {W : World} {r : Reach} {b0 : Nat} {sp : Nat → Bool} {held : Bool} {t : TypeId} {v : Value} {d : DataW H} {p : List MemPlace} (ht : P.underlying t = some .string) (hval : Value.okWide P W r b0 t v)
    (h : DataW.Trod enc P W 0 sp held t v d p) : ∃ x : List UInt8, v = bstr x ∧ wStr x := by
  obtain ⟨s, rfl⟩ := okWide_string ht hval
  obtain ⟨fuel, hf⟩ := h
  obtain ⟨s', h1, h2, h3⟩ := DataW.trod_string ht hf
  have e : s = s' := by
    have : ([Value.string s] : List Value) = [.string s'] := h1
    injection this with this
    injection this
  subst e
  exact ⟨s.data.toList, by simp [bstr], by show s.data.toList.length ≤ _; rw [Array.length_toList]; exact h3⟩
end
end Go.Proofs.YtbbeobiampbddaaL
