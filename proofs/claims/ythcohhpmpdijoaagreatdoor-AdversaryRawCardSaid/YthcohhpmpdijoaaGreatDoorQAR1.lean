/- What the row leans on, as few texts. -/
import Derived.Test.YthcohhpmpdijoaaGreatDoorQAR0
import Derived.ProofKit
import Derived.OpenShut
import Derived.ChangeOld
import Derived.Below
import Derived.ChangeArms
import Derived.Sort.Statements
import Derived.Laws.BytesArg
import Derived.Lib.Split
import Derived.Lib.Join
import Derived.Lib.Itoa
import Derived.Lib.ItoaNum
import Derived.Lib.LaidTab
import Derived.Lib.AtoiAll
import Derived.Test.YthcohhpmpdijoaaGreatDoorProg
import Derived.Shelf.LaysM
import Derived.Shelf.LaysC
import Derived.Shelf.Strconv.Itoa3
import Derived.Shelf.Strconv.AtoiAll
import Derived.Shelf.Strings.Split
import Derived.Shelf.Strings.OnBuilder
import Derived.Shelf.Small.Wraps
import Derived.Shelf.SlSortCmp.WholeK
import Derived.Shelf.SlSortCmp.NoneTotal
import Derived.Lib.SplitLaws
import Derived.WalkKit
set_option linter.unusedVariables false
set_option linter.unusedSimpArgs false
namespace Go.Proofs.YthcohhpmpdijoaaGreatDoorL
open Go Go.RowKit Go.ChangeShapes Go.WideShapes Go.ChangeAt

def RdAt (P : Program) (t : TypeId) {α : Type} (T : Ty α) (Wf : α → Prop) : Prop :=
  ∀ (H : Type) (enc : TypeId × Value → H) (w : World) (spare : Nat → Bool) (held : Bool) (fuel : Nat) (cs : List Value) (x : DataW H × List MemPlace), DataW.trod enc P w 0 spare held fuel t cs = some x → ∃ y, T.R (fun b => b < w.heap.size) w y cs ∧ Wf y
def wInt (k : IntKind) : Int → Prop := fun x => (Lit.int k x).wf = true
def wSlice {α : Type} (W : α → Prop) : List α → Prop := fun xs => xs.length ≤ 9223372036854775807 ∧ ∀ x ∈ xs, W x
def wPair {α β : Type} (A : α → Prop) (B : β → Prop) : α × β → Prop := fun x => A x.1 ∧ B x.2
def wIso {α β : Type} (f : α → β) (B : β → Prop) : α → Prop := fun x => B (f x)
section
variable {P : Program}
theorem rdInt {t : TypeId} {k : IntKind} (h : P.underlying t = some (.int k)) : RdAt P t (tInt k) (wInt k) := by
  intro H enc w spare held fuel cs x hx
  obtain ⟨n, h1, h2, h3⟩ := DataW.trod_int h hx
  exact ⟨n, h1, h3⟩
theorem rdSlice {t e : TypeId} {α : Type} {T : Ty α} {W : α → Prop} (h : P.underlying t = some (.slice e)) (he : RdAt P e T W) (hc : P.cellsOf e = T.sz) (h0 : 0 < T.sz) : RdAt P t (tSlice T) (wSlice W) := by
  intro H enc w spare held fuel cs x hx
  rcases DataW.trod_slice h hx with ⟨h1, _⟩ | ⟨a, len, cap, elems, rest, n, rfl, h1, _, _, hlc, hcm, hel, hget, _⟩
  · exact ⟨[], ⟨none, 0, h1, Nat.le_refl _, .inl rfl⟩, ⟨by simp, by simp⟩⟩
  · rw [hc] at hget
    have step : ∀ m, m ≤ len → ∃ xs : List α, xs.length = m ∧ (∀ x ∈ xs, W x) ∧ ∀ j x, xs[j]? = some x → ∃ cs, T.R (fun b => b < w.heap.size) w x cs ∧ w.cells? 0 (a.add (j * T.sz)) T.sz = some cs := by
      intro m
      induction m with
      | zero => exact fun _ => ⟨[], rfl, by simp, by simp⟩
      | succ m ih =>
        intro hm
        obtain ⟨xs, hl, hw, hr⟩ := ih (by omega)
        have hg := hget m (by omega)
        have hes : elems[m]? = some elems[m] := List.getElem?_eq_getElem (by omega)
        rw [hes] at hg
        obtain ⟨cs, hcs, htr⟩ := Option.bind_eq_some_iff.1 hg
        obtain ⟨y, hy, hyw⟩ := he H enc w spare held n cs _ htr
        refine ⟨xs ++ [y], by simp [hl], fun x hx => ?_, fun j x hj => ?_⟩
        · rcases List.mem_append.1 hx with hx | hx
          · exact hw x hx
          · simp at hx; subst hx; exact hyw
        · rcases Nat.lt_or_ge j xs.length with h | h
          · rw [List.getElem?_append_left h] at hj
            exact hr j x hj
          · rw [List.getElem?_append_right h] at hj
            have hj0 : j = m := by
              have := (List.getElem?_eq_some_iff.1 hj).1
              simp at this
              omega
            subst hj0
            rw [hl, Nat.sub_self] at hj
            simp at hj
            subst hj
            exact ⟨cs, hy, hcs⟩
    obtain ⟨xs, hl, hw, hr⟩ := step len (Nat.le_refl _)
    refine ⟨xs, ⟨some a, cap, by rw [hl]; exact h1, by omega, ?_⟩, ⟨by rw [hl]; simp only [maxLen] at hcm; omega, hw⟩⟩
    rcases Nat.eq_zero_or_pos xs.length with hz | hz
    · exact .inl (List.length_eq_zero_iff.1 hz)
    · have hspot : a.spot = none := by
        obtain ⟨cs, hR, hc2⟩ := hr 0 _ (List.getElem?_eq_getElem hz)
        have hlen := T.len hR
        obtain ⟨_, _, hcell⟩ := World.cells?_some hc2
        have := hcell 0 (by omega)
        rw [List.getElem?_eq_getElem (by omega)] at this
        have h3 := World.cell?_spot this
        rw [Nat.zero_mul] at h3
        revert h3
        unfold Addr.add
        obtain ⟨b, o, sp⟩ := a
        cases sp <;> simp
      obtain ⟨b, off, sp⟩ := a
      simp only at hspot
      subst hspot
      have hlt : b < w.heap.size := by
        obtain ⟨cs, hR, hc2⟩ := hr 0 _ (List.getElem?_eq_getElem hz)
        have := World.cells?_block hc2 h0
        rwa [addr_add] at this
      refine .inr ⟨b, off, rfl, hlt, hlt, fun j x hj => ?_⟩
      obtain ⟨cs, hR, hc2⟩ := hr j x hj
      refine ⟨cs, hR, fun i u hu => ?_⟩
      obtain ⟨_, _, hcell⟩ := World.cells?_some hc2
      have hi := (List.getElem?_eq_some_iff.1 hu).1
      have := hcell i (by rw [T.len hR] at hi; exact hi)
      rw [addr_add, addr_add, hu] at this
      exact this

def RdF (P : Program) (off : Nat) (fs : List Field) {α : Type} (T : Ty α) (Wf : α → Prop) : Prop :=
  ∀ (H : Type) (enc : TypeId × Value → H) (w : World) (spare : Nat → Bool) (held : Bool) (fuel : Nat) (cs : List Value), cs.length = T.sz →
    (∀ f ∈ fs, ∃ x, DataW.trod enc P w 0 spare held fuel f.type ((cs.drop (f.offset - off)).take (P.cellsOf f.type)) = some x) → ∃ y, T.R (fun b => b < w.heap.size) w y cs ∧ Wf y
theorem RdF.one {off : Nat} {f : Field} {α : Type} {T : Ty α} {W : α → Prop} (h : RdAt P f.type T W) (ho : f.offset = off) (hc : P.cellsOf f.type = T.sz) : RdF P off [f] T W := by
  intro H enc w spare held fuel cs hl hx
  obtain ⟨x, hx⟩ := hx f (by simp)
  rw [ho, Nat.sub_self, List.drop_zero, hc, ← hl, List.take_length] at hx
  exact h H enc w spare held fuel cs x hx
theorem RdF.cons {off off' : Nat} {f : Field} {fs : List Field} {α β : Type} {A : Ty α} {B : Ty β} {W : α → Prop} {V : β → Prop} (h : RdAt P f.type A W) (ho : f.offset = off) (hc : P.cellsOf f.type = A.sz) (hr : RdF P off' fs B V)
    (hoff : off' = off + A.sz) (hall : (fs.all fun g => Nat.ble off' g.offset) = true) : RdF P off (f :: fs) (tPair A B) (wPair W V) := by
  intro H enc w spare held fuel cs hl hx
  have hl' : cs.length = A.sz + B.sz := hl
  obtain ⟨x, hx1⟩ := hx f (by simp)
  rw [ho, Nat.sub_self, List.drop_zero, hc] at hx1
  obtain ⟨y1, h1, w1⟩ := h H enc w spare held fuel _ x hx1
  obtain ⟨y2, h2, w2⟩ := hr H enc w spare held fuel (cs.drop A.sz) (by rw [List.length_drop]; omega) fun g hg => by
    obtain ⟨x, hx2⟩ := hx g (by simp [hg])
    have hle : off' ≤ g.offset := by
      have := List.all_eq_true.1 hall g hg
      simpa using this
    refine ⟨x, ?_⟩
    rw [List.drop_drop]
    rw [show A.sz + (g.offset - off') = g.offset - off by omega]
    exact hx2
  exact ⟨(y1, y2), ⟨_, _, (List.take_append_drop A.sz cs).symm, h1, h2⟩, w1, w2⟩
theorem rdStruct {t : TypeId} {fs : Array Field} {α β : Type} {B : Ty β} {V : β → Prop} (f : α → β) (g : β → α) (hfg : ∀ y, f (g y) = y) (h : P.underlying t = some (.struct fs)) (hr : RdF P 0 fs.toList B V) (hc : P.cellsOf t = B.sz) : RdAt P t (tIso B f) (wIso f V) := by
  intro H enc w spare held fuel cs x hx
  obtain ⟨xs, n, rfl, _, hl, hxl, hget⟩ := DataW.trod_struct h hx
  obtain ⟨y, h1, h2⟩ := hr H enc w spare held n cs (by rw [hl, hc]) fun fd hfd => by
    obtain ⟨i, hi⟩ := List.mem_iff_getElem?.1 hfd
    have hi' : fs[i]? = some fd := by rw [← Array.getElem?_toList]; exact hi
    have := hget i fd hi'
    have hlt : i < fs.size := (Array.getElem?_eq_some_iff.1 hi').1
    refine ⟨xs[i]'(by omega), ?_⟩
    rw [Nat.sub_zero, this, List.getElem?_eq_getElem]
  refine ⟨g y, ?_, ?_⟩
  · show B.R _ w (f (g y)) cs
    rw [hfg]
    exact h1
  · show V (f (g y))
    rw [hfg]
    exact h2
theorem arg_slice {H : Type} {enc : TypeId × Value → H} {W : World} {sp : Nat → Bool} {held : Bool} {t : TypeId} {a : Option Addr} {n c : Nat} {d : DataW H} {p : List MemPlace} {α : Type} {T : Ty α} {Wf : List α → Prop} (hr : RdAt P t (tSlice T) Wf)
    (h : DataW.Trod enc P W 0 sp held t (.slice a n c) d p) : ∃ xs : List α, n = xs.length ∧ (vl (tSlice T) xs (.slice a xs.length c)).holds (fun b => b < W.heap.size) W ∧ Wf xs := by
  obtain ⟨fuel, hf⟩ := h
  obtain ⟨xs, ⟨a', c', e, h1, h2⟩, h3⟩ := hr _ _ _ _ _ _ _ _ hf
  simp only [Value.cells, List.cons.injEq, and_true] at e
  injection e with e1 e2 e3
  subst e1; subst e2; subst e3
  exact ⟨xs, rfl, tSlice_V.2 ⟨_, _, rfl, h1, h2⟩, h3⟩
end
end Go.Proofs.YthcohhpmpdijoaaGreatDoorL
set_option linter.unusedVariables false
set_option linter.unusedSimpArgs false
set_option linter.unusedSectionVars false
namespace Go.Proofs.YthcohhpmpdijoaaGreatDoorL
open Go Go.RowKit Go.Sort

def sortU {α : Type} (lt : α → α → Bool) (xs : List α) : Option (List α) :=
  if (xs.Pairwise fun a b => lt a b = true ∨ lt b a = true) ∧ xs.length < 4611686018427387904 then some (xs.mergeSort fun a b => !lt b a) else none
def cmpI (x y : Int) : Int := if x < y then -1 else if y < x then 1 else 0
theorem cmpI_neg (x y : Int) : decide (cmpI x y < 0) = decide (x < y) := by
  unfold cmpI
  by_cases h1 : x < y
  · simp [h1]
  · by_cases h2 : y < x <;> simp [h1, h2]
theorem swo_key {α : Type} (f : α → Int) : SWO fun x y : α => decide (f x < f y) where
  irrefl x := by simp
  trans x y z h1 h2 := by simp at *; omega
  ntrans x y z h1 h2 := by simp at *; omega
theorem sortU_perm {α : Type} {lt : α → α → Bool} {xs ys : List α} (h : sortU lt xs = some ys) : ys.Perm xs := by
  obtain ⟨_, h2⟩ := guardE h
  cases h2
  exact List.mergeSort_perm _ _
theorem pairwise_perm {α : Type} {R : α → α → Prop} (hs : ∀ a b, R a b → R b a) {l l' : List α} (hp : l.Perm l') (h : l.Pairwise R) : l'.Pairwise R := hp.pairwise h (fun h => hs _ _ h)
theorem sort_unique {α : Type} {lt : α → α → Bool} (hO : SWO lt) {xs ys zs : List α} (hx : xs.Pairwise fun a b => lt a b = true ∨ lt b a = true)
    (hy : ys.Perm xs) (hz : zs.Perm xs) (sy : ys.Pairwise fun a b => lt b a = false) (sz : zs.Pairwise fun a b => lt b a = false) : ys = zs := by
  have hys := pairwise_perm (fun a b h => h.symm) hy.symm hx
  have hsy : ys.Pairwise fun a b => lt a b = true := (hys.and sy).imp fun ⟨h1, h2⟩ => h1.resolve_right (by rw [h2]; simp)
  have hzs := pairwise_perm (fun a b h => h.symm) hz.symm hx
  have hsz : zs.Pairwise fun a b => lt a b = true := (hzs.and sz).imp fun ⟨h1, h2⟩ => h1.resolve_right (by rw [h2]; simp)
  refine List.Perm.eq_of_pairwise (le := fun a b => lt a b = true) ?_ hsy hsz (hy.trans hz.symm)
  intro a b _ _ h1 h2
  have := hO.trans _ _ _ h1 h2
  rw [hO.irrefl] at this
  cases this
theorem sortU_sorted {α : Type} {lt : α → α → Bool} (hO : SWO lt) {xs ys : List α} (h : sortU lt xs = some ys) : ys.Pairwise fun a b => lt b a = false := by
  obtain ⟨_, h2⟩ := guardE h
  cases h2
  have h3 := List.pairwise_mergeSort (le := fun a b => !lt b a) (fun a b c h1 h2 => ?_) (fun a b => ?_) xs
  · exact h3.imp fun h => by simpa using h
  · simp only [Bool.not_eq_true'] at h1 h2 ⊢
    exact hO.ntrans _ _ _ h2 h1
  · simp only [Bool.or_eq_true, Bool.not_eq_true']
    cases h : lt b a with
    | false => exact .inl rfl
    | true =>
      right
      cases h' : lt a b with
      | false => rfl
      | true =>
        have := hO.trans _ _ _ h h'
        rw [hO.irrefl] at this
        cases this
theorem pairwise_of_sortedIn {α : Type} [Inhabited α] {lt : α → α → Bool} {d : Array α} (h : SortedIn lt 0 d.size d) : d.toList.Pairwise fun a b => lt b a = false := by
  rw [List.pairwise_iff_getElem]
  intro i j hi hj hij
  have := h i j (Nat.zero_le _) hij (by simpa using hj)
  rw [getElem!_pos d i (by simpa using hi), getElem!_pos d j (by simpa using hj)] at this
  simpa using this
end Go.Proofs.YthcohhpmpdijoaaGreatDoorL
set_option linter.unusedVariables false
set_option linter.unusedSimpArgs false
set_option linter.unnecessarySimpa false
namespace Go.Proofs.YthcohhpmpdijoaaGreatDoorL
open Go Go.RowKit
section
variable {P : Program} {N : Nat} {ops : Array Oper} {Q : QE} {ρ : Env} {w : World} {w0 : Base} {rest : List Oper} {d : Option Tmp} {ty : TypeId} {pos : String} {aft : Array Edge} {gd : Option (Nat × Bool)} {ok0 : Nat → Prop} {Γ : List It} {Λ : List LObj}

def bts (xs : List Int) : List UInt8 := xs.map fun n => UInt8.ofNat n.toNat
theorem WL.bytesStr {T U E : TypeId} {x : Operand} {xs : List Int} {a : Option Addr} {c : Nat} (hs : St ok0 w0 w Γ Λ) (i : Nat) (hi : Γ[i]? = some (vl (tSlice (tInt .u8)) xs (.slice a xs.length c)))
    (hT : P.underlying T = some (.slice E)) (hE : P.underlying E = some (.int .u8)) (hU : P.underlying U = some .string) (hx : ρ.ev x = .slice a xs.length c) (K : WL P N ops Q rest (putE ρ d (bstr (bts xs))) w)
    (hg : wantedE ops ρ ⟨d, .convert T U x, ty, pos, aft, gd⟩ = true := by rfl) (hd : fits N d = true := by rfl) :
    WL P N ops Q (⟨d, .convert T U x, ty, pos, aft, gd⟩ :: rest) ρ w :=
  WL.value hg hd (v := bstr (bts xs)) (w' := w) (by
    show (do pure (Next.value (← convert T U (ρ.ev x))) : Sem Next).run P w = _
    rw [hx]
    refine exec_v ?_
    have hz : xs = [] → ∀ a : Option Addr, (convert T U (.slice a xs.length c)).run P w = .ok (bstr (bts xs)) w := by
      rintro rfl a
      cases a with
      | none => exact run_convert_bytes_nil w T E hT hE 0 c U hU
      | some a =>
        have hl : (loadCells a 0).run P w = .ok (([] : List Int).map (Value.int .u8)).toArray w := by simpa using run_loadCells_list (P := P) w a [] (by simp)
        rw [List.length_nil, run_convert_bytes_string w T U E _ 0 c hT hE hU, run_bytesToString w a 0 c [] hl]
        rfl
    obtain ⟨ok, h⟩ := hs.get i hi
    obtain ⟨a', c', e, hc, hr⟩ := tSlice_V.1 h
    injection e with e1 e2 e3
    subst e1
    rcases hr with h0 | ⟨g, off, rfl, hg, hlt, hcell⟩
    · exact hz h0 a
    · rw [run_convert_bytes_arg w T E hT hE g off xs.length c xs rfl (fun i hi => by
        have hxi : xs[i]? = some xs[i] := List.getElem?_eq_getElem hi
        obtain ⟨cs, hR, hcs⟩ := hcell i xs[i] hxi
        have hR' : cs = [.int .u8 xs[i]] := hR
        subst hR'
        have h1 := hcs 0 _ rfl
        have h2 : off + i * (tInt .u8).sz + 0 = off + i := by show off + i * 1 + 0 = off + i; omega
        rw [h2] at h1
        rw [h1, List.getD_eq_getElem?_getD, hxi]
        rfl) U hU]
      rfl) K
end
end Go.Proofs.YthcohhpmpdijoaaGreatDoorL
set_option linter.unusedVariables false
set_option linter.unusedSimpArgs false
namespace Go.Proofs.YthcohhpmpdijoaaGreatDoorL
open Go Go.RowKit
section
variable {w : World} {w0 : Base} {ok0 : Nat → Prop} {Γ : List It} {Λ : List LObj}
end
section
variable {P : Program} {N : Nat} {Q : QE} {ρ : Env} {w : World} {w0 : Base} {ok0 : Nat → Prop} {Γ : List It} {Λ : List LObj}
variable {d : Option Tmp} {ty : TypeId} {pos : String} {aft : Array Edge} {gd : Option (Nat × Bool)} {ops : Array Oper} {rest : List Oper}
theorem bldA {t e : TypeId} {n : Nat} {places : List (Nat × Nat)} {zero cs : List Value} {vs : List (Nat × Value)} {zv : Value} (hu : P.underlying t = some (.array n e)) (hs : TI P e false 1) (hz : ∀ w, (zeroValue t).run P w = .ok zv w) (hc : zv.cells = zero.toArray)
    (hp : places = (List.range n).map fun i => (i * 1, 1)) (hf : fillL places vs zero = some cs) : BLD P t vs cs := by
  intro w
  unfold Instr.build
  refine (run_bind (hz w)).trans ?_
  refine (run_bind (run_und hu w)).trans ?_
  refine (run_bind (hs.size_ w)).trans ?_
  rw [hc, fill_of (places := places) (fun i q h => by
    rw [hp, List.getElem?_map] at h
    obtain ⟨j, hj, rfl⟩ := Option.map_eq_some_iff.1 h
    have hlt := (List.getElem?_eq_some_iff.1 hj).1
    have := (List.getElem?_eq_some_iff.1 hj).2
    simp at this
    rw [this]) vs zero cs hf]
  rfl
end
end Go.Proofs.YthcohhpmpdijoaaGreatDoorL
set_option linter.unusedVariables false
set_option linter.unusedSimpArgs false
namespace Go.Proofs.YthcohhpmpdijoaaGreatDoorL
open Go Go.RowKit
def DoesT (P : Program) {α β : Type} (ar : α → (Nat → Prop) → World → List Value → Prop) (B : Ty β) (g : FuncId) (caps : Array Value) (ok : Nat → Prop) (w : World) (F : α → Option β) : Prop :=
  FN P g ∧ ∀ (ok' : Nat → Prop) (w' : World), (∀ b, ok b → b < w.heap.size → w'.heap[b]? = w.heap[b]? ∧ ok' b) →
    ∀ x r vs, F x = some r → ar x ok' w' vs → Calls P g (vs.toArray ++ caps) w' fun e w'' => ∃ v, e = .returned v ∧ ∃ y : Value, v = y ∧ St ok' (bz w') w'' [vl B r y] []
def tFunT (P : Program) {α β : Type} (ar : α → (Nat → Prop) → World → List Value → Prop) (B : Ty β) : Ty (α → Option β) where
  sz := 1
  agg := false
  R := fun ok w F cs => ∃ g caps, cs = [.func (.func g) #[] caps] ∧ DoesT P ar B g caps ok w F
  len := by rintro _ _ _ _ ⟨g, caps, rfl, _⟩; rfl
  one := by rintro _ _ _ _ ⟨g, caps, rfl, _⟩ u hu; simp at hu; subst hu; rfl
  move := by
    rintro ok ok' w w' F cs ⟨g, caps, rfl, hf, hd⟩ hm
    refine ⟨g, caps, rfl, hf, fun ok2 w2 hm2 => hd ok2 w2 fun b hb hl => ?_⟩
    obtain ⟨h1, h2⟩ := hm b hb hl
    have hl' : b < w'.heap.size := lt_of_some (h1.trans (Array.getElem?_eq_getElem hl))
    obtain ⟨h3, h4⟩ := hm2 b h2 hl'
    exact ⟨h3.trans h1, h4⟩
theorem tFunT_V {P : Program} {α β : Type} {ar : α → (Nat → Prop) → World → List Value → Prop} {B : Ty β} {ok : Nat → Prop} {w : World} {F : α → Option β} {v : Value} :
    (tFunT P ar B).V ok w F v ↔ ∃ g caps, v = .func (.func g) #[] caps ∧ DoesT P ar B g caps ok w F :=
  ⟨by rintro ⟨_, ⟨g, caps, rfl, h⟩, e⟩; exact ⟨g, caps, e, h⟩, by rintro ⟨g, caps, rfl, h⟩; exact ⟨_, ⟨g, caps, rfl, h⟩, rfl⟩⟩
def tErr : Ty Bool where
  sz := 1
  agg := false
  R := fun _ _ b cs => ∃ v, cs = [v] ∧ ((b = false ∧ v = .nilIface) ∨ (b = true ∧ ∃ te pe, v = .iface te pe))
  len := by rintro _ _ _ _ ⟨v, rfl, _⟩; rfl
  one := by rintro _ _ _ _ ⟨v, rfl, (⟨_, rfl⟩ | ⟨_, te, pe, rfl⟩)⟩ u hu <;> (simp at hu; subst hu; rfl)
  move := fun h _ => h
theorem tErr_V {ok : Nat → Prop} {w : World} {b : Bool} {v : Value} : tErr.V ok w b v ↔ ((b = false ∧ v = .nilIface) ∨ (b = true ∧ ∃ te pe, v = .iface te pe)) :=
  ⟨by rintro ⟨_, ⟨v', rfl, h⟩, e⟩; rw [show v = v' from e]; exact h, fun h => ⟨[v], ⟨v, rfl, h⟩, rfl⟩⟩
def tTab (P : Program) (name : String) (g : Nat) (hv : P.globalNamed name = some g) (zs : List Int) : Ty Unit where
  sz := 1
  agg := false
  R := fun ok w _ cs => cs = [.int .i64 0] ∧ ok g ∧ g < w.heap.size ∧ Go.Lib.TabIs P w name .u64 zs
  len := by rintro _ _ _ _ ⟨rfl, _⟩; rfl
  one := by rintro _ _ _ _ ⟨rfl, _⟩ u hu; simp at hu; subst hu; rfl
  move := by
    rintro ok ok' w w' x cs ⟨rfl, h1, h2, h3⟩ hm
    obtain ⟨e1, e2⟩ := hm g h1 h2
    refine ⟨rfl, e2, lt_of_some (e1.trans (Array.getElem?_eq_getElem h2)), ?_⟩
    unfold Go.Lib.TabIs World.var? at h3 ⊢
    rw [hv] at h3 ⊢
    simp only [Option.bind_some] at h3 ⊢
    rw [e1]
    exact h3
theorem tTab_V {P : Program} {name : String} {g : Nat} {hv : P.globalNamed name = some g} {zs : List Int} {ok : Nat → Prop} {w : World} {v : Value} (h : (vl (tTab P name g hv zs) () v).holds ok w) : Go.Lib.TabIs P w name .u64 zs := by
  obtain ⟨cs, h, _⟩ := h
  exact h.2.2.2
theorem idx_in {α : Type} {xs : List α} {i : Int} {y : α} {n : Nat} (hn : xs.length = n) (h : idx xs i = some y) : 0 ≤ i ∧ i < (n : Int) := by
  obtain ⟨h0, h1, _⟩ := idx_some h
  omega
theorem idx_cell {α : Type} {xs : List α} {i : Int} {y : α} {enc : α → Value} (h : idx xs i = some y) : (xs.map enc)[0 + i.toNat * 1]? = some (enc y) := by
  obtain ⟨_, _, h2⟩ := idx_some h
  rw [Nat.zero_add, Nat.mul_one, List.getElem?_map, h2]
  rfl
section
variable {P : Program} {N : Nat} {Q : QE} {ρ : Env} {w : World} {w0 : Base} {ok0 : Nat → Prop} {Γ : List It} {Λ : List LObj}
variable {d : Option Tmp} {ty : TypeId} {pos : String} {aft : Array Edge} {gd : Option (Nat × Bool)} {ops : Array Oper} {rest : List Oper}
theorem R_fun {α β : Type} {ar : α → (Nat → Prop) → World → List Value → Prop} {B : Ty β} {ok : Nat → Prop} {w : World} {F : α → Option β} {v : Value} (h : (vl (tFunT P ar B) F v).holds ok w) : (tFunT P ar B).R ok w F [v] := by
  obtain ⟨g, caps, e, h⟩ := tFunT_V.1 h
  exact ⟨g, caps, by rw [e], h⟩
theorem St.funT {α β : Type} {ar : α → (Nat → Prop) → World → List Value → Prop} {B : Ty β} {F : α → Option β} {v : Value} (hs : St ok0 w0 w Γ Λ) (i : Nat) (hi : Γ[i]? = some (vl (tFunT P ar B) F v)) : ∃ g caps, v = .func (.func g) #[] caps := by
  obtain ⟨ok, h⟩ := hs.get i hi
  obtain ⟨g, caps, e, _⟩ := tFunT_V.1 h
  exact ⟨g, caps, e⟩
theorem WL.callFT {α β : Type} {ar : α → (Nat → Prop) → World → List Value → Prop} {B : Ty β} {F : α → Option β} {f : Tmp} {fv : Value} {args : List Operand} {ats : Array TypeId} {vs : List Value} {x : α} {r : β}
    (hs : St ok0 w0 w Γ Λ) (i : Nat) (hi : Γ[i]? = some (vl (tFunT P ar B) F fv)) (hf : ρ f = fv) (ha : Evs ρ args vs) (har : ∀ ok, All ok w Γ → ar x ok w vs) (hF : F x = some r)
    (K : ∀ y w', St ok0 w0 w' (vl B r y :: Γ) Λ → WL P N ops Q rest (putE ρ d y) w')
    (hg : wantedE ops ρ ⟨d, .call { callee := .value (.tmp f), args := args.toArray, argTypes := ats }, ty, pos, aft, gd⟩ = true := by rfl) (hd : fits N d = true := by rfl) :
    WL P N ops Q (⟨d, .call { callee := .value (.tmp f), args := args.toArray, argTypes := ats }, ty, pos, aft, gd⟩ :: rest) ρ w := by
  obtain ⟨ok, hA, hput⟩ := hs.call
  obtain ⟨g, caps, rfl, hFN, hdo⟩ := tFunT_V.1 (hA.get i hi)
  refine WL.enter hg hd (w' := w) (f := g) (args := vs.toArray ++ caps) ?_ (hdo ok w (fun b hb _ => ⟨rfl, hb⟩) x r vs hF (har ok hA)) ?_
  · show (do let df ← Deferred.ofValue (ρ f) (args.toArray.map ρ.ev); invoke df.target df.args : Sem Next).run P w = _
    rw [hf, List.map_toArray, ha.map]
    simpa [Deferred.ofValue, invoke] using hFN (vs.toArray ++ caps) w
  · rintro v w' ⟨y, rfl, hs'⟩
    exact K _ w' (hput w' [_] [] hs')
def NEI (P : Program) (T : TypeId) : Prop := (∀ w, (binOp .neq T .nilIface .nilIface).run P w = .ok (.bool false) w) ∧ ∀ te pe w, (binOp .neq T (.iface te pe) .nilIface).run P w = .ok (.bool true) w
theorem WL.neqErr {T T' : TypeId} {x : Operand} {b : Bool} {v : Value} (hs : St ok0 w0 w Γ Λ) (i : Nat) (hi : Γ[i]? = some (vl tErr b v)) (hx : ρ.ev x = v) (hN : NEI P T)
    (K : WL P N ops Q rest (putE ρ d (.bool b)) w)
    (hg : wantedE ops ρ ⟨d, .binOp .neq T x (.const .nilIface) T', ty, pos, aft, gd⟩ = true := by rfl) (hd : fits N d = true := by rfl) :
    WL P N ops Q (⟨d, .binOp .neq T x (.const .nilIface) T', ty, pos, aft, gd⟩ :: rest) ρ w := by
  obtain ⟨ok, hA⟩ := hs.get i hi
  refine WL.value hg hd (v := .bool b) (w' := w) ?_ K
  show (do pure (Next.value (← (do eqGuard .neq T x (.const .nilIface) (ρ.ev x) .nilIface; binOp .neq T (ρ.ev x) .nilIface))) : Sem Next).run P w = _
  rw [hx]
  rcases tErr_V.1 hA with ⟨rfl, rfl⟩ | ⟨rfl, te, pe, rfl⟩
  · exact exec_v ((run_bind (show (eqGuard .neq T x (.const .nilIface) .nilIface .nilIface).run P w = .ok () w by unfold eqGuard; cases x <;> rfl)).trans (hN.1 w))
  · exact exec_v ((run_bind (show (eqGuard .neq T x (.const .nilIface) (.iface te pe) .nilIface).run P w = .ok () w by unfold eqGuard; cases x <;> rfl)).trans (hN.2 te pe w))
end
end Go.Proofs.YthcohhpmpdijoaaGreatDoorL
set_option linter.unusedVariables false
set_option linter.unusedSimpArgs false
namespace Go.Proofs.YthcohhpmpdijoaaGreatDoor
open Go Go.RowKit Go.Proofs.YthcohhpmpdijoaaGreatDoorL
structure api_AccessID where
  Process : Int
  Number : Int
  deriving DecidableEq
structure api_Rule where
  Kind : Int
  Columns : Int
  Faulty : Int
  deriving DecidableEq
structure api_Change where
  Kind : Int
  Server : Int
  Weight : Int
  Version : Int
  Rule : api_Rule
  deriving DecidableEq
structure api_Proposal where
  Admin : Int
  Number : Int
  Changes : List api_Change
  deriving DecidableEq
structure api_Certificate where
  From : List api_Proposal
  To : List api_Proposal
  deriving DecidableEq
structure api_Effect where
  Kind : Int
  Object : List UInt8
  Field : List UInt8
  N : Int
  S : List UInt8
  deriving DecidableEq
structure api_Update where
  Client : Int
  Seq : Int
  Tag : Int
  Effects : List api_Effect
  deriving DecidableEq
structure api_Entry where
  Author : Int
  Count : Int
  deriving DecidableEq
structure api_Message where
  Kind : Int
  From : Int
  To : Int
  Access : api_AccessID
  Round : Int
  Mode : Int
  Cert : api_Certificate
  Base : api_Certificate
  HasBase : Bool
  Established : api_Certificate
  Config : List api_Proposal
  State : List api_Update
  Have : List api_Entry
  More : Bool
  deriving DecidableEq
structure network_Packet where
  ID : Int
  Message : api_Message
  deriving DecidableEq
structure network_Side where
  Process : Int
  Side : Int
  deriving DecidableEq
structure network_Network where
  Next : Int
  Packets : List network_Packet
  Sides : List network_Side
  deriving DecidableEq
structure adversary_Rule where
  Kind : Int
  Arg : Int
  deriving DecidableEq
def words_ : List (List UInt8) := [[], [112, 114, 101, 102, 101, 114, 32, 116, 111], [112, 114, 101, 102, 101, 114, 32, 102, 114, 111, 109], [112, 114, 101, 102, 101, 114, 32, 107, 105, 110, 100], [97, 118, 111, 105, 100, 32, 116, 111], [97, 118, 111, 105, 100, 32, 102, 114, 111, 109], [97, 118, 111, 105, 100, 32, 107, 105, 110, 100], [111, 108, 100, 101, 115, 116], [110, 101, 119, 101, 115, 116], [114, 111, 116, 97, 116, 101]]

noncomputable def network_New  : Option network_Network :=
  some (⟨1, [], []⟩ : network_Network)
noncomputable def slices_Clone_Packet (x1 : List network_Packet) : Option (List network_Packet) :=
  ((app 296 [] x1).bind fun x11 =>
  some x11)
noncomputable def slices_Clone_Side (x1 : List network_Side) : Option (List network_Side) :=
  ((app 16 [] x1).bind fun x11 =>
  some x11)
noncomputable def network_clone (x1 : network_Network) : Option network_Network :=
  ((slices_Clone_Packet x1.Packets).bind fun x13 =>
  ((slices_Clone_Side x1.Sides).bind fun x17 =>
  some (⟨x1.Next, x13, x17⟩ : network_Network)))
noncomputable def network_Send.j1 (x16 : network_Network) (x25 : Int) (x26 : List network_Packet) : Option network_Network :=
  some (⟨x25, x26, x16.Sides⟩ : network_Network)
noncomputable def network_Send.l1 (x5 : List api_Message) : (Int × Int × (List network_Packet)) → Option ((Int × Int × (List network_Packet)) ⊕ (Int × (List network_Packet))) := fun (x34, x35, x36) =>
  (if (decide (x34 < (x5.length : Int))) then ((idx x5 x34).bind fun x46 =>
  (if (decide (4096 ≤ (x36.length : Int))) then some (.inr (x35, x36)) else ((app 296 x36 [(⟨x35, x46⟩ : network_Packet)]).bind fun x57 =>
  (letV (IntKind.i64.wrap (x35 + 1)) fun x62 =>
  (letV (IntKind.i64.wrap (x34 + 1)) fun x63 =>
  some (.inl (x63, x62, x57))))))) else some (.inr (x35, x36)))
noncomputable def network_Send (x1 : network_Network) (x5 : List api_Message) : Option network_Network :=
  ((network_clone (⟨x1.Next, x1.Packets, x1.Sides⟩ : network_Network)).bind fun x16 =>
  ((loopO (network_Send.l1 x5) (0, x16.Next, x16.Packets)).bind fun (x64, x65) => network_Send.j1 x16 x64 x65))
noncomputable def strings_Split (x1 x2 : List UInt8) : Option (List (List UInt8)) := if 1 ≤ x2.length ∧ x1.length < 4294967281 then some (Go.Lib.split x1 x2) else none
noncomputable def strings_CutPrefix (x1 x2 : List UInt8) : Option (List UInt8 × Bool) := some (Go.Lib.trimPrefix x1 x2, Go.Lib.hasPrefix x1 x2)
noncomputable def strconv_Atoi (x1 : List UInt8) : Option (Int × Bool) := if x1.length ≤ 281474976710656 then (match Go.Lib.atoiAll x1 with | .ok v => some (v, false) | .«syntax» => some (0, true) | .range => some (Go.Lib.atoiSat x1, true)) else none

noncomputable def adversary_parseRule.j1  (x6 : Int) (x7 : Int) : Option adversary_Rule :=
  some (⟨0, 0⟩ : adversary_Rule)
noncomputable def adversary_parseRule.j2 (x12 : Int) (x21 : Int) (x22 : Int) : Option ((Int × Int × Int) ⊕ ((Int × Int) ⊕ adversary_Rule)) :=
  (letV (IntKind.i64.wrap (x12 + 1)) fun x24 =>
  some (.inl (x24, x21, x22)))
noncomputable def adversary_parseRule.l1 (x1 : List UInt8) : (Int × Int × Int) → Option ((Int × Int × Int) ⊕ ((Int × Int) ⊕ adversary_Rule)) := fun (x12, x13, x14) =>
  (if (decide (x12 ≤ 9)) then (if (decide (6 < x12)) then ((idx words_ x12).bind fun x33 =>
  (if (x1 == x33) then some (.inr (.inr (⟨x12, 0⟩ : adversary_Rule))) else adversary_parseRule.j2 x12 x13 x14)) else ((idx words_ x12).bind fun x42 =>
  ((cat x42 ([32] : List UInt8)).bind fun x45 =>
  ((strings_CutPrefix x1 x45).bind fun (x46, x47) =>
  (if x47 then ((strconv_Atoi x46).bind fun (x51, x52) =>
  (if x52 then some (.inr (.inr (⟨0, 0⟩ : adversary_Rule))) else some (.inr (.inr (⟨x12, x51⟩ : adversary_Rule))))) else adversary_parseRule.j2 x12 x13 x14))))) else some (.inr (.inl (x13, x14))))
noncomputable def adversary_parseRule (x1 : List UInt8) : Option adversary_Rule :=
  ((loopO (adversary_parseRule.l1 x1) (1, 0, 0)).bind fun b => match b with | .inl (x59, x60) => adversary_parseRule.j1 x59 x60 | .inr x61 => some x61)
noncomputable def adversary_Validate.j1   : Option Int :=
  some 0
noncomputable def adversary_Validate.j2 (x15 : Int) (x36 : Bool) : Option ((Int) ⊕ (Unit ⊕ Int)) :=
  (if x36 then some (.inr (.inr 9)) else (letV (IntKind.i64.wrap (x15 + 1)) fun x40 =>
  some (.inl x40)))
noncomputable def adversary_Validate.j3 (x15 : Int) (x22 : adversary_Rule) (x30 : Bool) : Option ((Int) ⊕ (Unit ⊕ Int)) :=
  (if x30 then some (.inr (.inr 10)) else (if (decide (x22.Kind ≤ 6)) then (if (decide (x22.Arg < 1)) then adversary_Validate.j2 x15 true else (if (decide (1000 < x22.Arg)) then adversary_Validate.j2 x15 true else (if (decide (6 < x22.Kind)) then adversary_Validate.j2 x15 (x22.Arg != 0) else adversary_Validate.j2 x15 false))) else (if (decide (6 < x22.Kind)) then adversary_Validate.j2 x15 (x22.Arg != 0) else adversary_Validate.j2 x15 false)))
noncomputable def adversary_Validate.l1 (x1 : List adversary_Rule) : Int → Option ((Int) ⊕ (Unit ⊕ Int)) := fun x15 =>
  (if (decide (x15 < (x1.length : Int))) then ((idx x1 x15).bind fun x22 =>
  (if (decide (x22.Kind < 1)) then adversary_Validate.j3 x15 x22 true else adversary_Validate.j3 x15 x22 (decide (9 < x22.Kind)))) else some (.inr (.inl ())))
noncomputable def adversary_Validate (x1 : List adversary_Rule) : Option Int :=
  (if (decide (16 < (x1.length : Int))) then some 3 else ((loopO (adversary_Validate.l1 x1) 0).bind fun b => match b with | .inl _ => adversary_Validate.j1 | .inr x56 => some x56))
noncomputable def strconv_Itoa (x1 : Int) : Option (List UInt8) := if -9223372036854775808 ≤ x1 ∧ x1 ≤ 9223372036854775807 then some (Go.Lib.itoa x1) else none
noncomputable def strings_Join (x1 : List (List UInt8)) (x2 : List UInt8) : Option (List UInt8) := if x1.length ≤ 140737488355328 ∧ (Go.Lib.join x1 x2).length ≤ 140737488355328 then some (Go.Lib.join x1 x2) else none
noncomputable def adversary_Format.j1  (x13 : List (List UInt8)) : Option (List UInt8) :=
  ((strings_Join x13 ([59, 32] : List UInt8)).bind fun x19 =>
  some x19)
noncomputable def adversary_Format.j2 (x22 : List (List UInt8)) (x26 : Int) (x49 : List UInt8) : Option (((List (List UInt8)) × Int) ⊕ (List (List UInt8))) :=
  ((app 16 x22 [x49]).bind fun x52 =>
  (letV (IntKind.i64.wrap (x26 + 1)) fun x57 =>
  some (.inl (x52, x57))))
noncomputable def adversary_Format.l1 (x1 : List adversary_Rule) : ((List (List UInt8)) × Int) → Option (((List (List UInt8)) × Int) ⊕ (List (List UInt8))) := fun (x22, x26) =>
  (if (decide (x26 < (x1.length : Int))) then ((idx x1 x26).bind fun x33 =>
  ((idx words_ x33.Kind).bind fun x44 =>
  (if (decide (x33.Kind ≤ 6)) then ((strconv_Itoa x33.Arg).bind fun x62 =>
  ((cat ([32] : List UInt8) x62).bind fun x63 =>
  ((cat x44 x63).bind fun x64 =>
  adversary_Format.j2 x22 x26 x64))) else adversary_Format.j2 x22 x26 x44))) else some (.inr x22))
noncomputable def adversary_Format (x1 : List adversary_Rule) : Option (List UInt8) :=
  ((adversary_Validate x1).bind fun x7 =>
  (if (x7 != 0) then some ([] : List UInt8) else ((loopO (adversary_Format.l1 x1) ([], 0)).bind fun x65 => adversary_Format.j1 x65)))
noncomputable def adversary_Parse.j1 (x1 : List UInt8) (x10 : List adversary_Rule) : Option ((List adversary_Rule) × Int) :=
  ((adversary_Format x10).bind fun x17 =>
  (if (x17 != x1) then some ([], 11) else some (x10, 0)))
noncomputable def adversary_Parse.l1 (x22 : List (List UInt8)) : ((List adversary_Rule) × Int) → Option (((List adversary_Rule) × Int) ⊕ (List adversary_Rule)) := fun (x26, x30) =>
  (if (decide (x30 < (x22.length : Int))) then ((idx x22 x30).bind fun x37 =>
  ((adversary_parseRule x37).bind fun x40 =>
  ((app 16 x26 [x40]).bind fun x44 =>
  (letV (IntKind.i64.wrap (x30 + 1)) fun x49 =>
  some (.inl (x44, x49)))))) else some (.inr x26))
noncomputable def adversary_Parse (x1 : List UInt8) : Option ((List adversary_Rule) × Int) :=
  (if (x1 == ([] : List UInt8)) then some ([], 0) else ((strings_Split x1 ([59, 32] : List UInt8)).bind fun x22 =>
  ((loopO (adversary_Parse.l1 x22) ([], 0)).bind fun x50 => adversary_Parse.j1 x1 x50)))
noncomputable def network_side.j1   : Option Int :=
  some 0
noncomputable def network_side.l1 (x1 : network_Network) (x5 : Int) : Int → Option ((Int) ⊕ (Unit ⊕ Int)) := fun x17 =>
  (if (decide (x17 < ((x1.Sides).length : Int))) then ((idx x1.Sides x17).bind fun x24 =>
  (if (x24.Process == x5) then some (.inr (.inr x24.Side)) else (letV (IntKind.i64.wrap (x17 + 1)) fun x35 =>
  some (.inl x35)))) else some (.inr (.inl ())))
noncomputable def network_side (x1 : network_Network) (x5 : Int) : Option Int :=
  ((loopO (network_side.l1 x1 x5) 0).bind fun b => match b with | .inl _ => network_side.j1 | .inr x36 => some x36)
noncomputable def network_Blocked (x1 : network_Network) (x5 : Int) (x6 : Int) : Option Bool :=
  ((network_side x1 x5).bind fun x10 =>
  ((network_side x1 x6).bind fun x11 =>
  some (x10 != x11)))
noncomputable def network_Deliverable.j1  (x10 : List Int) : Option (List Int) :=
  some x10
noncomputable def network_Deliverable.j2 (x25 : Int) (x32 : List Int) : Option (((List Int) × Int) ⊕ (List Int)) :=
  (letV (IntKind.i64.wrap (x25 + 1)) fun x37 =>
  some (.inl (x32, x37)))
noncomputable def network_Deliverable.l1 (x1 : network_Network) : ((List Int) × Int) → Option (((List Int) × Int) ⊕ (List Int)) := fun (x21, x25) =>
  (if (decide (x25 < ((x1.Packets).length : Int))) then ((idx x1.Packets x25).bind fun x39 =>
  ((network_Blocked x1 x39.Message.From x39.Message.To).bind fun x48 =>
  (if (!x48) then ((app 8 x21 [x39.ID]).bind fun x52 =>
  network_Deliverable.j2 x25 x52) else network_Deliverable.j2 x25 x21))) else some (.inr x21))
noncomputable def network_Deliverable (x1 : network_Network) : Option (List Int) :=
  ((loopO (network_Deliverable.l1 x1) ([], 0)).bind fun x57 => network_Deliverable.j1 x57)
noncomputable def slices_BinarySearchFunc_int.j1  (x16 : Int) (x17 : Bool) : Option (Int × Bool) :=
  some (x16, x17)
noncomputable def slices_BinarySearchFunc_int.j2 (x1 : List network_Packet) (x4 : Int) (x5 : network_Packet × Int → Option Int) (x12 : Int) : Option (Int × Bool) :=
  (if (decide (x12 < (x1.length : Int))) then ((idx x1 x12).bind fun x20 =>
  ((x5 (x20, x4)).bind fun x25 =>
  slices_BinarySearchFunc_int.j1 x12 (x25 == 0))) else slices_BinarySearchFunc_int.j1 x12 false)
noncomputable def slices_BinarySearchFunc_int.l1 (x1 : List network_Packet) (x4 : Int) (x5 : network_Packet × Int → Option Int) : (Int × Int) → Option ((Int × Int) ⊕ (Int)) := fun (x27, x28) =>
  (if (decide (x27 < x28)) then (letV (IntKind.i64.wrap (x27 + x28)) fun x34 =>
  (letV (shrI .u64 (IntKind.u64.wrap x34) 1) fun x36 =>
  ((idx x1 (IntKind.i64.wrap x36)).bind fun x38 =>
  ((x5 (x38, x4)).bind fun x43 =>
  (if (decide (x43 < 0)) then (letV (IntKind.i64.wrap ((IntKind.i64.wrap x36) + 1)) fun x45 =>
  some (.inl (x45, x28))) else some (.inl (x27, (IntKind.i64.wrap x36)))))))) else some (.inr x27))
noncomputable def slices_BinarySearchFunc_int (x1 : List network_Packet) (x4 : Int) (x5 : network_Packet × Int → Option Int) : Option (Int × Bool) :=
  ((loopO (slices_BinarySearchFunc_int.l1 x1 x4 x5) (0, (x1.length : Int))).bind fun x46 => slices_BinarySearchFunc_int.j2 x1 x4 x5 x46)
noncomputable def cmp_isNaN_int (x1 : Int) : Option Bool :=
  some (x1 != x1)
noncomputable def cmp_Compare_int (x1 : Int) (x2 : Int) : Option Int :=
  ((cmp_isNaN_int x1).bind fun x5 =>
  ((cmp_isNaN_int x2).bind fun x7 =>
  (if x5 then (if x7 then some 0 else some (-1)) else (if x7 then some 1 else (if (decide (x1 < x2)) then some (-1) else (if (decide (x2 < x1)) then some 1 else some 0))))))
noncomputable def network_position_1 (x1 : network_Packet) (x5 : Int) : Option Int :=
  ((cmp_Compare_int x1.ID x5).bind fun x10 =>
  some x10)
noncomputable def network_position (x1 : network_Network) (x5 : Int) : Option (Int × Bool) :=
  ((slices_BinarySearchFunc_int x1.Packets x5 (fun p : network_Packet × Int => network_position_1 p.1 p.2)).bind fun (x12, x13) =>
  some (x12, x13))
noncomputable def network_Find (x1 : network_Network) (x5 : Int) : Option (api_Message × Bool) :=
  ((network_position x1 x5).bind fun (x10, x11) =>
  (if (!x11) then some ((⟨0, 0, 0, (⟨0, 0⟩ : api_AccessID), 0, 0, (⟨[], []⟩ : api_Certificate), (⟨[], []⟩ : api_Certificate), false, (⟨[], []⟩ : api_Certificate), [], [], [], false⟩ : api_Message), false) else ((idx x1.Packets x10).bind fun x20 =>
  some (x20.Message, true))))
noncomputable def adversary_matches.j1 (x1 : adversary_Rule) (x5 : api_Message) (x25 : Bool) : Option Bool :=
  (if x25 then some (x5.From == x1.Arg) else some (x5.Kind == x1.Arg))
noncomputable def adversary_matches.j2 (x1 : adversary_Rule) (x5 : api_Message) (x17 : Bool) : Option Bool :=
  (if x17 then some (x5.To == x1.Arg) else (if (x1.Kind == 2) then adversary_matches.j1 x1 x5 true else adversary_matches.j1 x1 x5 (x1.Kind == 5)))
noncomputable def adversary_matches (x1 : adversary_Rule) (x5 : api_Message) : Option Bool :=
  (if (x1.Kind == 1) then adversary_matches.j2 x1 x5 true else adversary_matches.j2 x1 x5 (x1.Kind == 4))
noncomputable def adversary_filterOf_1.j1 (x1 : List network_Packet) (x44 : List network_Packet) : Option (List network_Packet) :=
  (if ((x44.length : Int) == 0) then some x1 else some x44)
noncomputable def adversary_filterOf_1.j2 (x60 : Int) (x67 : List network_Packet) : Option (((List network_Packet) × Int) ⊕ (List network_Packet)) :=
  (letV (IntKind.i64.wrap (x60 + 1)) fun x72 =>
  some (.inl (x67, x72)))
noncomputable def adversary_filterOf_1.l1 (x1 : List network_Packet) (x4 : adversary_Rule) : ((List network_Packet) × Int) → Option (((List network_Packet) × Int) ⊕ (List network_Packet)) := fun (x56, x60) =>
  (if (decide (x60 < (x1.length : Int))) then ((idx x1 x60).bind fun x74 =>
  ((adversary_matches x4 x74.Message).bind fun x87 =>
  (if (x87 == (decide (x4.Kind ≤ 3))) then ((app 296 x56 [x74]).bind fun x121 =>
  adversary_filterOf_1.j2 x60 x121) else adversary_filterOf_1.j2 x60 x56))) else some (.inr x56))
noncomputable def adversary_filterOf_1 (x1 : List network_Packet) (x4 : adversary_Rule) (x6 : Int) : Option (List network_Packet) :=
  (if (x4.Kind == 7) then ((cut x1 0 1).bind fun x17 =>
  some x17) else (if (x4.Kind == 8) then (letV (IntKind.i64.wrap ((x1.length : Int) - 1)) fun x23 =>
  ((cut x1 x23 (x1.length : Int)).bind fun x24 =>
  some x24)) else (if (x4.Kind == 9) then (if (x1.length : Int) ≠ 0 then (letV (Int.tmod x6 (x1.length : Int)) fun x31 =>
  (letV (IntKind.i64.wrap (x31 + (x1.length : Int))) fun x33 =>
  (if (x1.length : Int) ≠ 0 then (letV (Int.tmod x33 (x1.length : Int)) fun x34 =>
  (letV (IntKind.i64.wrap (x34 + 1)) fun x37 =>
  ((cut x1 x34 x37).bind fun x38 =>
  some x38))) else none))) else none) else ((loopO (adversary_filterOf_1.l1 x1 x4) ([], 0)).bind fun x126 => adversary_filterOf_1.j1 x1 x126))))
noncomputable def adversary_filterOf (x1 : adversary_Rule) (x5 : Int) : Option ((List network_Packet) → Option (List network_Packet)) :=
  some (fun p : (List network_Packet) => adversary_filterOf_1 p x1 x5)
noncomputable def adversary_narrow.j1  (x10 : List network_Packet) : Option (List network_Packet) :=
  some x10
noncomputable def adversary_narrow.l1 (x4 : List ((List network_Packet) → Option (List network_Packet))) : ((List network_Packet) × Int) → Option (((List network_Packet) × Int) ⊕ (List network_Packet)) := fun (x17, x20) =>
  (if (decide (x20 < (x4.length : Int))) then ((idx x4 x20).bind fun x27 =>
  ((x27 x17).bind fun x30 =>
  (letV (IntKind.i64.wrap (x20 + 1)) fun x34 =>
  some (.inl (x30, x34))))) else some (.inr x17))
noncomputable def adversary_narrow (x1 : List network_Packet) (x4 : List ((List network_Packet) → Option (List network_Packet))) : Option (List network_Packet) :=
  ((loopO (adversary_narrow.l1 x4) (x1, 0)).bind fun x35 => adversary_narrow.j1 x35)
noncomputable def adversary_Choose.j1 (x14 : List network_Packet) (x29 : List ((List network_Packet) → Option (List network_Packet))) : Option (Int × Bool) :=
  ((adversary_narrow x14 x29).bind fun x35 =>
  ((idx x35 0).bind fun x38 =>
  some (x38.ID, true)))
noncomputable def adversary_Choose.l1 (x1 : List adversary_Rule) (x8 : Int) : ((List ((List network_Packet) → Option (List network_Packet))) × Int) → Option (((List ((List network_Packet) → Option (List network_Packet))) × Int) ⊕ (List ((List network_Packet) → Option (List network_Packet)))) := fun (x44, x48) =>
  (if (decide (x48 < (x1.length : Int))) then ((idx x1 x48).bind fun x55 =>
  ((adversary_filterOf x55 x8).bind fun x61 =>
  ((app 8 x44 [x61]).bind fun x66 =>
  (letV (IntKind.i64.wrap (x48 + 1)) fun x71 =>
  some (.inl (x66, x71)))))) else some (.inr x44))
noncomputable def adversary_Choose.j2 (x1 : List adversary_Rule) (x8 : Int) (x14 : List network_Packet) (x22 : Bool) : Option (Int × Bool) :=
  (if x22 then some (0, false) else ((loopO (adversary_Choose.l1 x1 x8) ([], 0)).bind fun x72 => adversary_Choose.j1 x14 x72))
noncomputable def adversary_Choose.j3 (x1 : List adversary_Rule) (x8 : Int) (x14 : List network_Packet) : Option (Int × Bool) :=
  (if ((x14.length : Int) == 0) then adversary_Choose.j2 x1 x8 x14 true else ((adversary_Validate x1).bind fun x74 =>
  adversary_Choose.j2 x1 x8 x14 (x74 != 0)))
noncomputable def adversary_Choose.l2 (x4 : network_Network) (x76 : List Int) : ((List network_Packet) × Int) → Option (((List network_Packet) × Int) ⊕ (List network_Packet)) := fun (x81, x85) =>
  (if (decide (x85 < (x76.length : Int))) then ((idx x76 x85).bind fun x92 =>
  ((network_Find x4 x92).bind fun (x96, x97) =>
  ((app 296 x81 [(⟨x92, x96⟩ : network_Packet)]).bind fun x102 =>
  (letV (IntKind.i64.wrap (x85 + 1)) fun x107 =>
  some (.inl (x102, x107)))))) else some (.inr x81))
noncomputable def adversary_Choose (x1 : List adversary_Rule) (x4 : network_Network) (x8 : Int) : Option (Int × Bool) :=
  ((network_Deliverable x4).bind fun x76 =>
  ((loopO (adversary_Choose.l2 x4 x76) ([], 0)).bind fun x108 => adversary_Choose.j3 x1 x8 x108))
noncomputable def network_remove (x1 : network_Network) (x5 : Int) : Option network_Network :=
  ((network_clone (⟨x1.Next, x1.Packets, x1.Sides⟩ : network_Network)).bind fun x14 =>
  ((cut x14.Packets 0 x5).bind fun x22 =>
  (letV (IntKind.i64.wrap (x5 + 1)) fun x24 =>
  ((cut x14.Packets x24 ((x14.Packets).length : Int)).bind fun x25 =>
  ((app 296 x22 x25).bind fun x50 =>
  some (⟨x14.Next, x50, x14.Sides⟩ : network_Network))))))
noncomputable def network_Deliver.j1 (x1 : network_Network) (x11 : Int) (x16 : Bool) : Option (network_Network × api_Message × Bool) :=
  (if x16 then ((network_clone x1).bind fun x20 =>
  some ((⟨x20.Next, x20.Packets, x20.Sides⟩ : network_Network), (⟨0, 0, 0, (⟨0, 0⟩ : api_AccessID), 0, 0, (⟨[], []⟩ : api_Certificate), (⟨[], []⟩ : api_Certificate), false, (⟨[], []⟩ : api_Certificate), [], [], [], false⟩ : api_Message), false)) else ((network_remove x1 x11).bind fun x28 =>
  ((idx x1.Packets x11).bind fun x34 =>
  some (x28, x34.Message, true))))
noncomputable def network_Deliver (x1 : network_Network) (x5 : Int) : Option (network_Network × api_Message × Bool) :=
  ((network_position x1 x5).bind fun (x11, x12) =>
  (if (!x12) then network_Deliver.j1 x1 x11 true else ((idx x1.Packets x11).bind fun x138 =>
  ((idx x1.Packets x11).bind fun x146 =>
  ((network_Blocked x1 x138.Message.From x146.Message.To).bind fun x151 =>
  network_Deliver.j1 x1 x11 x151)))))
noncomputable def adversary_Order.j1 (x12 : List Int) (x21 : Int) (x25 : Bool) (x26 : network_Network) : Option (((List Int) × network_Network) ⊕ (List Int)) :=
  (if (!x25) then some (.inr x12) else ((app 8 x12 [x21]).bind fun x35 =>
  some (.inl (x35, x26))))
noncomputable def adversary_Order.l1 (x1 : List adversary_Rule) : ((List Int) × network_Network) → Option (((List Int) × network_Network) ⊕ (List Int)) := fun (x12, x16) =>
  ((adversary_Choose x1 x16 (x12.length : Int)).bind fun (x21, x22) =>
  (if x22 then ((network_Deliver x16 x21).bind fun (x42, x43, x44) =>
  adversary_Order.j1 x12 x21 x44 x42) else adversary_Order.j1 x12 x21 x22 x16))
noncomputable def adversary_Order (x1 : List adversary_Rule) (x4 : network_Network) : Option (List Int) :=
  ((loopO (adversary_Order.l1 x1) ([], x4)).bind fun x49 => some x49)
noncomputable def eslaw36_awake.j1  (x35 : Bool) : Option Bool :=
  some x35
noncomputable def eslaw36_awake  : Option Bool :=
  ((network_New).bind fun x3 =>
  ((network_Send (⟨x3.Next, x3.Packets, x3.Sides⟩ : network_Network) ([(⟨2, 1, 2, (⟨0, 0⟩ : api_AccessID), 0, 0, (⟨[], []⟩ : api_Certificate), (⟨[], []⟩ : api_Certificate), false, (⟨[], []⟩ : api_Certificate), [], [], [], false⟩ : api_Message), (⟨1, 2, 3, (⟨0, 0⟩ : api_AccessID), 0, 0, (⟨[], []⟩ : api_Certificate), (⟨[], []⟩ : api_Certificate), false, (⟨[], []⟩ : api_Certificate), [], [], [], false⟩ : api_Message), (⟨2, 3, 1, (⟨0, 0⟩ : api_AccessID), 0, 0, (⟨[], []⟩ : api_Certificate), (⟨[], []⟩ : api_Certificate), false, (⟨[], []⟩ : api_Certificate), [], [], [], false⟩ : api_Message)])).bind fun x11 =>
  ((adversary_Parse ([112, 114, 101, 102, 101, 114, 32, 107, 105, 110, 100, 32, 50, 59, 32, 110, 101, 119, 101, 115, 116] : List UInt8)).bind fun (x20, x21) =>
  ((adversary_Choose x20 (⟨x11.Next, x11.Packets, x11.Sides⟩ : network_Network) 0).bind fun (x26, x27) =>
  ((adversary_Order x20 (⟨x11.Next, x11.Packets, x11.Sides⟩ : network_Network)).bind fun x29 =>
  (if (x21 == 0) then (if ((x20.length : Int) == 2) then (if x27 then (if (x26 == 3) then (if ((x29.length : Int) == 3) then ((idx x29 1).bind fun x42 =>
  (if (x42 == 1) then ((idx x29 2).bind fun x46 =>
  (if (x46 == 2) then ((adversary_Format x20).bind fun x50 =>
  eslaw36_awake.j1 (x50 == ([112, 114, 101, 102, 101, 114, 32, 107, 105, 110, 100, 32, 50, 59, 32, 110, 101, 119, 101, 115, 116] : List UInt8))) else eslaw36_awake.j1 false)) else eslaw36_awake.j1 false)) else eslaw36_awake.j1 false) else eslaw36_awake.j1 false) else eslaw36_awake.j1 false) else eslaw36_awake.j1 false) else eslaw36_awake.j1 false))))))
noncomputable def eslaw00_Index (x1 : Int) (x2 : Int) : Option Int :=
  (if (decide (x2 < 1)) then some 0 else (if x2 ≠ 0 then (letV (IntKind.i64.wrap ((Int.tmod x1 x2) + x2)) fun x10 =>
  (if x2 ≠ 0 then some (Int.tmod x10 x2) else none)) else none))
noncomputable def eslaw00_Digit.j1 (x2 : Int) (x9 : Int) : Option Int :=
  (if x2 ≠ 0 then some (Int.tmod x9 x2) else none)
noncomputable def eslaw00_Digit.l1 (x2 : Int) (x3 : Int) : (Int × Int) → Option ((Int × Int) ⊕ (Int)) := fun (x15, x16) =>
  (if (decide (x16 < x3)) then (if x2 ≠ 0 then (letV (IntKind.i64.wrap (Int.tdiv x15 x2)) fun x22 =>
  (letV (IntKind.i64.wrap (x16 + 1)) fun x24 =>
  some (.inl (x22, x24)))) else none) else some (.inr x15))
noncomputable def eslaw00_Digit (x1 : Int) (x2 : Int) (x3 : Int) : Option Int :=
  ((eslaw00_Index x1 1099511627776).bind fun x6 =>
  ((loopO (eslaw00_Digit.l1 x2 x3) (x6, 0)).bind fun x25 => eslaw00_Digit.j1 x2 x25))
def slices_SortFunc_Side (x1 : List network_Side) : Option (List network_Side) := sortU (fun a b => decide (a.Process < b.Process)) x1
noncomputable def network_Partition.j1 (x16 : network_Network) (x32 : List network_Side) : Option network_Network :=
  ((slices_SortFunc_Side x32).bind fun x38 =>
  some (⟨x16.Next, x16.Packets, x38⟩ : network_Network))
noncomputable def network_Partition.l1  (x49 : Int) (x50 : Int) : List network_Side → Option ((List network_Side) ⊕ (Unit)) := fun x44 =>
  (if (x50 != 0) then ((app 16 x44 [(⟨x49, x50⟩ : network_Side)]).bind fun x60 =>
  some (.inl x60)) else some (.inl x44))
noncomputable def network_Partition.j2 (x16 : network_Network) (x26 : List (Int × Int)) : Option network_Network :=
  (permO x26 fun t42 =>
  ((foldO (fun p : Int × Int => network_Partition.l1 p.1 p.2) t42 []).bind fun b => match b with | .inl x44 => network_Partition.j1 x16 x44 | .inr _ => none))
noncomputable def network_Partition.l2 (x5 : List network_Side) : ((List (Int × Int)) × Int) → Option (((List (Int × Int)) × Int) ⊕ (List (Int × Int))) := fun (x66, x68) =>
  (if (decide (x68 < (x5.length : Int))) then ((idx x5 x68).bind fun x75 =>
  (letV (mset x66 x75.Process x75.Side) fun x83 =>
  (letV (IntKind.i64.wrap (x68 + 1)) fun x84 =>
  some (.inl (x83, x84))))) else some (.inr x66))
noncomputable def network_Partition (x1 : network_Network) (x5 : List network_Side) : Option network_Network :=
  ((network_clone (⟨x1.Next, x1.Packets, x1.Sides⟩ : network_Network)).bind fun x16 =>
  ((loopO (network_Partition.l2 x5) (([] : List (Int × Int)), 0)).bind fun x85 => network_Partition.j2 x16 x85))
noncomputable def eslaw36_packets.j1 (x4 : Int) (x18 : Int) (x19 : List network_Packet) (x22 : List network_Side) : Option network_Network :=
  ((eslaw00_Digit x4 2 0).bind fun x27 =>
  ((eslaw00_Digit x4 2 1).bind fun x28 =>
  ((eslaw00_Digit x4 3 2).bind fun x29 =>
  ((network_Partition (⟨x18, x19, x22⟩ : network_Network) [(⟨1, x27⟩ : network_Side), (⟨2, x28⟩ : network_Side), (⟨3, x29⟩ : network_Side)]).bind fun x32 =>
  some x32))))
noncomputable def eslaw36_packets.j2 (x1 : List Int) (x68 : Int) (x69 : Int) (x70 : List network_Packet) (x73 : List network_Side) (x80 : Bool) : Option ((Int × Int × (List network_Packet) × (List network_Side)) ⊕ (Int × (List network_Packet) × (List network_Side))) :=
  (if x80 then ((idx x1 x68).bind fun x84 =>
  ((eslaw00_Digit x84 8 0).bind fun x87 =>
  (letV (IntKind.i64.wrap (1 + x87)) fun x88 =>
  ((idx x1 x68).bind fun x89 =>
  ((eslaw00_Digit x89 6 2).bind fun x92 =>
  (letV (IntKind.i64.wrap (1 + x92)) fun x93 =>
  ((idx x1 x68).bind fun x94 =>
  ((eslaw00_Digit x94 6 3).bind fun x97 =>
  (letV (IntKind.i64.wrap (1 + x97)) fun x98 =>
  ((network_Send (⟨x69, x70, x73⟩ : network_Network) ([(⟨x88, x93, x98, (⟨0, 0⟩ : api_AccessID), 0, 0, (⟨[], []⟩ : api_Certificate), (⟨[], []⟩ : api_Certificate), false, (⟨[], []⟩ : api_Certificate), [], [], [], false⟩ : api_Message)])).bind fun x101 =>
  (letV (IntKind.i64.wrap (x68 + 1)) fun x164 =>
  some (.inl (x164, x101.Next, x101.Packets, x101.Sides))))))))))))) else some (.inr (x69, x70, x73)))
noncomputable def eslaw36_packets.l1 (x1 : List Int) : (Int × Int × (List network_Packet) × (List network_Side)) → Option ((Int × Int × (List network_Packet) × (List network_Side)) ⊕ (Int × (List network_Packet) × (List network_Side))) := fun (x68, x69, x70, x73) =>
  (if (decide (x68 < (x1.length : Int))) then eslaw36_packets.j2 x1 x68 x69 x70 x73 (decide (x68 < 24)) else eslaw36_packets.j2 x1 x68 x69 x70 x73 false)
noncomputable def eslaw36_packets (x1 : List Int) (x4 : Int) : Option network_Network :=
  ((network_New).bind fun x8 =>
  ((loopO (eslaw36_packets.l1 x1) (0, x8.Next, x8.Packets, x8.Sides)).bind fun (x174, x175, x176) => eslaw36_packets.j1 x4 x174 x175 x176))
noncomputable def esref36_ValidateRules.j1   : Option Int :=
  some 0
noncomputable def esref36_ValidateRules.j2 (x15 : Int) (x37 : Bool) : Option ((Int) ⊕ (Unit ⊕ Int)) :=
  (if x37 then some (.inr (.inr 9)) else (letV (IntKind.i64.wrap (x15 + 1)) fun x41 =>
  some (.inl x41)))
noncomputable def esref36_ValidateRules.j3 (x15 : Int) (x22 : adversary_Rule) (x31 : Bool) : Option ((Int) ⊕ (Unit ⊕ Int)) :=
  (if x31 then some (.inr (.inr 10)) else (if (decide (x22.Kind ≤ 6)) then (if (decide (x22.Arg < 1)) then esref36_ValidateRules.j2 x15 true else (if (decide (1000 < x22.Arg)) then esref36_ValidateRules.j2 x15 true else (if (decide (7 ≤ x22.Kind)) then esref36_ValidateRules.j2 x15 (x22.Arg != 0) else esref36_ValidateRules.j2 x15 false))) else (if (decide (7 ≤ x22.Kind)) then esref36_ValidateRules.j2 x15 (x22.Arg != 0) else esref36_ValidateRules.j2 x15 false)))
noncomputable def esref36_ValidateRules.l1 (x1 : List adversary_Rule) : Int → Option ((Int) ⊕ (Unit ⊕ Int)) := fun x15 =>
  (if (decide (x15 < (x1.length : Int))) then ((idx x1 x15).bind fun x22 =>
  (if (decide (x22.Kind < 1)) then esref36_ValidateRules.j3 x15 x22 true else esref36_ValidateRules.j3 x15 x22 (decide (9 < x22.Kind)))) else some (.inr (.inl ())))
noncomputable def esref36_ValidateRules (x1 : List adversary_Rule) : Option Int :=
  (if (decide (16 < (x1.length : Int))) then some 3 else ((loopO (esref36_ValidateRules.l1 x1) 0).bind fun b => match b with | .inl _ => esref36_ValidateRules.j1 | .inr x57 => some x57))
noncomputable def esref36_side.j1   : Option Int :=
  some 0
noncomputable def esref36_side.l1 (x1 : network_Network) (x5 : Int) : Int → Option ((Int) ⊕ (Unit ⊕ Int)) := fun x14 =>
  (if (decide (x14 < ((x1.Sides).length : Int))) then ((idx x1.Sides x14).bind fun x27 =>
  (if (x27.Process == x5) then ((idx x1.Sides x14).bind fun x36 =>
  some (.inr (.inr x36.Side))) else (letV (IntKind.i64.wrap (x14 + 1)) fun x40 =>
  some (.inl x40)))) else some (.inr (.inl ())))
noncomputable def esref36_side (x1 : network_Network) (x5 : Int) : Option Int :=
  ((loopO (esref36_side.l1 x1 x5) 0).bind fun b => match b with | .inl _ => esref36_side.j1 | .inr x41 => some x41)
noncomputable def esref36_Blocked (x1 : network_Network) (x5 : Int) (x6 : Int) : Option Bool :=
  ((esref36_side x1 x5).bind fun x10 =>
  ((esref36_side x1 x6).bind fun x11 =>
  some (x10 != x11)))
noncomputable def esref36_matches.j1 (x1 : adversary_Rule) (x16 : Int) : Option Bool :=
  some ((x16 == x1.Arg) == (decide (x1.Kind ≤ 3)))
noncomputable def esref36_matches.j2 (x1 : adversary_Rule) (x5 : network_Packet) (x31 : Bool) : Option Bool :=
  (if x31 then esref36_matches.j1 x1 x5.Message.From else esref36_matches.j1 x1 x5.Message.Kind)
noncomputable def esref36_matches.j3 (x1 : adversary_Rule) (x5 : network_Packet) (x25 : Bool) : Option Bool :=
  (if x25 then esref36_matches.j1 x1 x5.Message.To else (if (x1.Kind == 2) then esref36_matches.j2 x1 x5 true else esref36_matches.j2 x1 x5 (x1.Kind == 5)))
noncomputable def esref36_matches (x1 : adversary_Rule) (x5 : network_Packet) : Option Bool :=
  (if (x1.Kind == 1) then esref36_matches.j3 x1 x5 true else esref36_matches.j3 x1 x5 (x1.Kind == 4))
noncomputable def esref36_kept.j1 (x5 : List network_Packet) (x34 : Int) : Option (List network_Packet) :=
  (letV (IntKind.i64.wrap (x34 + 1)) fun x37 =>
  ((cut x5 x34 x37).bind fun x38 =>
  some x38))
noncomputable def esref36_kept.j2 (x5 : List network_Packet) (x47 : List network_Packet) : Option (List network_Packet) :=
  (if ((x47.length : Int) == 0) then some x5 else some x47)
noncomputable def esref36_kept.j3 (x63 : Int) (x70 : List network_Packet) : Option (((List network_Packet) × Int) ⊕ (List network_Packet)) :=
  (letV (IntKind.i64.wrap (x63 + 1)) fun x75 =>
  some (.inl (x70, x75)))
noncomputable def esref36_kept.l1 (x1 : adversary_Rule) (x5 : List network_Packet) : ((List network_Packet) × Int) → Option (((List network_Packet) × Int) ⊕ (List network_Packet)) := fun (x59, x63) =>
  (if (decide (x63 < (x5.length : Int))) then ((idx x5 x63).bind fun x77 =>
  ((esref36_matches x1 x77).bind fun x82 =>
  (if x82 then ((idx x5 x63).bind fun x104 =>
  ((app 296 x59 [x104]).bind fun x110 =>
  esref36_kept.j3 x63 x110)) else esref36_kept.j3 x63 x59))) else some (.inr x59))
noncomputable def esref36_kept (x1 : adversary_Rule) (x5 : List network_Packet) (x8 : Int) : Option (List network_Packet) :=
  (if (x1.Kind == 7) then ((cut x5 0 1).bind fun x17 =>
  some x17) else (if (x1.Kind == 8) then (letV (IntKind.i64.wrap ((x5.length : Int) - 1)) fun x23 =>
  ((cut x5 x23 (x5.length : Int)).bind fun x24 =>
  some x24)) else (if (x1.Kind == 9) then (if (x5.length : Int) ≠ 0 then (letV (Int.tmod x8 (x5.length : Int)) fun x30 =>
  (if (decide (x30 < 0)) then (letV (IntKind.i64.wrap (x30 + (x5.length : Int))) fun x43 =>
  esref36_kept.j1 x5 x43) else esref36_kept.j1 x5 x30)) else none) else ((loopO (esref36_kept.l1 x1 x5) ([], 0)).bind fun x115 => esref36_kept.j2 x5 x115))))
noncomputable def esref36_Choose.j1  (x30 : List network_Packet) : Option (Int × Bool) :=
  ((idx x30 0).bind fun x35 =>
  some (x35.ID, true))
noncomputable def esref36_Choose.l1 (x1 : List adversary_Rule) (x8 : Int) : ((List network_Packet) × Int) → Option (((List network_Packet) × Int) ⊕ (List network_Packet)) := fun (x41, x44) =>
  (if (decide (x44 < (x1.length : Int))) then ((idx x1 x44).bind fun x50 =>
  ((esref36_kept x50 x41 x8).bind fun x55 =>
  (letV (IntKind.i64.wrap (x44 + 1)) fun x58 =>
  some (.inl (x55, x58))))) else some (.inr x41))
noncomputable def esref36_Choose.j2 (x1 : List adversary_Rule) (x8 : Int) (x19 : List network_Packet) : Option (Int × Bool) :=
  (if ((x19.length : Int) == 0) then some (0, false) else ((loopO (esref36_Choose.l1 x1 x8) (x19, 0)).bind fun x59 => esref36_Choose.j1 x59))
noncomputable def esref36_Choose.j3 (x66 : Int) (x76 : List network_Packet) : Option (((List network_Packet) × Int) ⊕ (List network_Packet)) :=
  (letV (IntKind.i64.wrap (x66 + 1)) fun x81 =>
  some (.inl (x76, x81)))
noncomputable def esref36_Choose.l2 (x4 : network_Network) : ((List network_Packet) × Int) → Option (((List network_Packet) × Int) ⊕ (List network_Packet)) := fun (x62, x66) =>
  (if (decide (x66 < ((x4.Packets).length : Int))) then ((idx x4.Packets x66).bind fun x86 =>
  ((esref36_Blocked x4 x86.Message.From x86.Message.To).bind fun x96 =>
  (if (!x96) then ((idx x4.Packets x66).bind fun x101 =>
  ((app 296 x62 [x101]).bind fun x107 =>
  esref36_Choose.j3 x66 x107)) else esref36_Choose.j3 x66 x62))) else some (.inr x62))
noncomputable def esref36_Choose (x1 : List adversary_Rule) (x4 : network_Network) (x8 : Int) : Option (Int × Bool) :=
  ((esref36_ValidateRules x1).bind fun x13 =>
  (if (x13 != 0) then some (0, false) else ((loopO (esref36_Choose.l2 x4) ([], 0)).bind fun x112 => esref36_Choose.j2 x1 x8 x112)))
noncomputable def decimalF : Nat → Int → Option (List UInt8)
  | 0, _ => none
  | f + 1, x1 => (if (decide (x1 < 10)) then (letV (IntKind.i64.wrap (48 + x1)) fun x7 =>
    some (bts [(IntKind.u8.wrap x7)])) else (letV (IntKind.i64.wrap (Int.tdiv x1 10)) fun x10 =>
    ((decimalF f x10).bind fun x11 =>
    ((decimalF f (Int.tmod x1 10)).bind fun x12 =>
    ((cat x11 x12).bind fun x13 =>
    some x13)))))
noncomputable def esref36_decimal (x1 : Int) : Option (List UInt8) := decimalF 6 x1

noncomputable def esref36_Format.j1  (x15 : List UInt8) : Option (List UInt8) :=
  some x15
noncomputable def esref36_Format.j2 (x21 : Int) (x28 : List UInt8) : Option (((List UInt8) × Int) ⊕ (List UInt8)) :=
  (letV (IntKind.i64.wrap (x21 + 1)) fun x30 =>
  some (.inl (x28, x30)))
noncomputable def esref36_Format.j3 (x1 : List adversary_Rule) (x21 : Int) (x33 : List UInt8) : Option (((List UInt8) × Int) ⊕ (List UInt8)) :=
  ((idx x1 x21).bind fun x36 =>
  (letV (IntKind.i64.wrap (x36.Kind - 1)) fun x40 =>
  ((idx ([([112, 114, 101, 102, 101, 114, 32, 116, 111, 32] : List UInt8), ([112, 114, 101, 102, 101, 114, 32, 102, 114, 111, 109, 32] : List UInt8), ([112, 114, 101, 102, 101, 114, 32, 107, 105, 110, 100, 32] : List UInt8), ([97, 118, 111, 105, 100, 32, 116, 111, 32] : List UInt8), ([97, 118, 111, 105, 100, 32, 102, 114, 111, 109, 32] : List UInt8), ([97, 118, 111, 105, 100, 32, 107, 105, 110, 100, 32] : List UInt8), ([111, 108, 100, 101, 115, 116] : List UInt8), ([110, 101, 119, 101, 115, 116] : List UInt8), ([114, 111, 116, 97, 116, 101] : List UInt8)] : List (List UInt8)) x40).bind fun x41 =>
  ((cat x33 x41).bind fun x42 =>
  ((idx x1 x21).bind fun x44 =>
  (if (decide (x44.Kind ≤ 6)) then ((idx x1 x21).bind fun x49 =>
  ((esref36_decimal x49.Arg).bind fun x53 =>
  ((cat x42 x53).bind fun x54 =>
  esref36_Format.j2 x21 x54))) else esref36_Format.j2 x21 x42))))))
noncomputable def esref36_Format.l1 (x1 : List adversary_Rule) : ((List UInt8) × Int) → Option (((List UInt8) × Int) ⊕ (List UInt8)) := fun (x20, x21) =>
  (if (decide (x21 < (x1.length : Int))) then (if (decide (0 < x21)) then ((cat x20 ([59, 32] : List UInt8)).bind fun x57 =>
  esref36_Format.j3 x1 x21 x57) else esref36_Format.j3 x1 x21 x20) else some (.inr x20))
noncomputable def esref36_Format (x1 : List adversary_Rule) : Option (List UInt8) :=
  ((esref36_ValidateRules x1).bind fun x7 =>
  (if (x7 != 0) then some ([] : List UInt8) else ((loopO (esref36_Format.l1 x1) (([] : List UInt8), 0)).bind fun x58 => esref36_Format.j1 x58)))
noncomputable def eslaw36_AdversaryRaw.j1  (x27 : Bool) : Option Bool :=
  some x27
noncomputable def eslaw36_AdversaryRaw (x1 : List adversary_Rule) (x4 : List Int) (x7 : Int) : Option Bool :=
  (if (decide (20 < (x1.length : Int))) then ((eslaw36_awake).bind fun x13 =>
  some x13) else ((eslaw36_packets x4 0).bind fun x15 =>
  ((adversary_Choose x1 x15 x7).bind fun (x20, x21) =>
  ((esref36_Choose x1 x15 x7).bind fun (x23, x24) =>
  (if (x20 == x23) then (if (x21 == x24) then ((adversary_Validate x1).bind fun x31 =>
  ((esref36_ValidateRules x1).bind fun x32 =>
  (if (x31 == x32) then ((adversary_Format x1).bind fun x34 =>
  ((esref36_Format x1).bind fun x35 =>
  (if (x34 == x35) then ((eslaw36_awake).bind fun x37 =>
  eslaw36_AdversaryRaw.j1 x37) else eslaw36_AdversaryRaw.j1 false))) else eslaw36_AdversaryRaw.j1 false))) else eslaw36_AdversaryRaw.j1 false) else eslaw36_AdversaryRaw.j1 false)))))
end Go.Proofs.YthcohhpmpdijoaaGreatDoor
set_option linter.unusedVariables false
set_option linter.unusedSimpArgs false
namespace Go.Proofs.YthcohhpmpdijoaaGreatDoor
open Go Go.RowKit Go.Proofs.YthcohhpmpdijoaaGreatDoorL
set_option maxRecDepth 20000
def t_api_AccessID : Ty api_AccessID := tIso (tPair (tInt .i64) (tInt .i64)) fun x : api_AccessID => (x.Process, x.Number)
def t_api_Rule : Ty api_Rule := tIso (tPair (tInt .i64) (tPair (tInt .i64) (tInt .i64))) fun x : api_Rule => (x.Kind, x.Columns, x.Faulty)
def t_api_Change : Ty api_Change := tIso (tPair (tInt .i64) (tPair (tInt .i64) (tPair (tInt .i64) (tPair (tInt .i64) t_api_Rule)))) fun x : api_Change => (x.Kind, x.Server, x.Weight, x.Version, x.Rule)
def t_api_Proposal : Ty api_Proposal := tIso (tPair (tInt .i64) (tPair (tInt .i64) (tSlice t_api_Change))) fun x : api_Proposal => (x.Admin, x.Number, x.Changes)
def t_api_Certificate : Ty api_Certificate := tIso (tPair (tSlice t_api_Proposal) (tSlice t_api_Proposal)) fun x : api_Certificate => (x.From, x.To)
def t_api_Effect : Ty api_Effect := tIso (tPair (tInt .i64) (tPair tStr (tPair tStr (tPair (tInt .i64) tStr)))) fun x : api_Effect => (x.Kind, x.Object, x.Field, x.N, x.S)
def t_api_Update : Ty api_Update := tIso (tPair (tInt .i64) (tPair (tInt .i64) (tPair (tInt .i64) (tSlice t_api_Effect)))) fun x : api_Update => (x.Client, x.Seq, x.Tag, x.Effects)
def t_api_Entry : Ty api_Entry := tIso (tPair (tInt .i64) (tInt .i64)) fun x : api_Entry => (x.Author, x.Count)
def t_api_Message : Ty api_Message := tIso (tPair (tInt .i64) (tPair (tInt .i64) (tPair (tInt .i64) (tPair t_api_AccessID (tPair (tInt .i64) (tPair (tInt .i64) (tPair t_api_Certificate (tPair t_api_Certificate (tPair tBool (tPair t_api_Certificate (tPair (tSlice t_api_Proposal) (tPair (tSlice t_api_Update) (tPair (tSlice t_api_Entry) tBool))))))))))))) fun x : api_Message => (x.Kind, x.From, x.To, x.Access, x.Round, x.Mode, x.Cert, x.Base, x.HasBase, x.Established, x.Config, x.State, x.Have, x.More)
theorem F_api_Message_Kind : Fld t_api_Message (tInt .i64) 0 api_Message.Kind (fun x y => { x with Kind := y }) := (Fld.iso (Fld.fst _ _) (fun _ => rfl) (fun _ _ => rfl))
theorem F_api_Message_From : Fld t_api_Message (tInt .i64) 1 api_Message.From (fun x y => { x with From := y }) := (Fld.iso (Fld.snd (Fld.fst _ _)) (fun _ => rfl) (fun _ _ => rfl))
theorem F_api_Message_To : Fld t_api_Message (tInt .i64) 2 api_Message.To (fun x y => { x with To := y }) := (Fld.iso (Fld.snd (Fld.snd (Fld.fst _ _))) (fun _ => rfl) (fun _ _ => rfl))
def t_network_Packet : Ty network_Packet := tIso (tPair (tInt .i64) t_api_Message) fun x : network_Packet => (x.ID, x.Message)
theorem F_network_Packet_ID : Fld t_network_Packet (tInt .i64) 0 network_Packet.ID (fun x y => { x with ID := y }) := (Fld.iso (Fld.fst _ _) (fun _ => rfl) (fun _ _ => rfl))
theorem F_network_Packet_Message : Fld t_network_Packet t_api_Message 1 network_Packet.Message (fun x y => { x with Message := y }) := (Fld.iso (Fld.snd Fld.self) (fun _ => rfl) (fun _ _ => rfl))
def t_network_Side : Ty network_Side := tIso (tPair (tInt .i64) (tInt .i64)) fun x : network_Side => (x.Process, x.Side)
theorem F_network_Side_Process : Fld t_network_Side (tInt .i64) 0 network_Side.Process (fun x y => { x with Process := y }) := (Fld.iso (Fld.fst _ _) (fun _ => rfl) (fun _ _ => rfl))
theorem F_network_Side_Side : Fld t_network_Side (tInt .i64) 1 network_Side.Side (fun x y => { x with Side := y }) := (Fld.iso (Fld.snd Fld.self) (fun _ => rfl) (fun _ _ => rfl))
def t_network_Network : Ty network_Network := tIso (tPair (tInt .i64) (tPair (tSlice t_network_Packet) (tSlice t_network_Side))) fun x : network_Network => (x.Next, x.Packets, x.Sides)
theorem F_network_Network_Packets : Fld t_network_Network (tSlice t_network_Packet) 1 network_Network.Packets (fun x y => { x with Packets := y }) := (Fld.iso (Fld.snd (Fld.fst _ _)) (fun _ => rfl) (fun _ _ => rfl))
theorem F_network_Network_Sides : Fld t_network_Network (tSlice t_network_Side) 2 network_Network.Sides (fun x y => { x with Sides := y }) := (Fld.iso (Fld.snd (Fld.snd Fld.self)) (fun _ => rfl) (fun _ _ => rfl))
def t_adversary_Rule : Ty adversary_Rule := tIso (tPair (tInt .i64) (tInt .i64)) fun x : adversary_Rule => (x.Kind, x.Arg)
theorem F_adversary_Rule_Kind : Fld t_adversary_Rule (tInt .i64) 0 adversary_Rule.Kind (fun x y => { x with Kind := y }) := (Fld.iso (Fld.fst _ _) (fun _ => rfl) (fun _ _ => rfl))
theorem F_adversary_Rule_Arg : Fld t_adversary_Rule (tInt .i64) 1 adversary_Rule.Arg (fun x y => { x with Arg := y }) := (Fld.iso (Fld.snd Fld.self) (fun _ => rfl) (fun _ _ => rfl))
theorem EI3 : EI Tryz.prog 3 (.int .i64 0) 1 8 := ⟨by kernel_rfl, rfl, by decide⟩
theorem EI38 : EI Tryz.prog 38 (.agg #[.int .i64 0, .int .i64 0]) 2 16 := ⟨by kernel_rfl, rfl, by decide⟩
theorem EI63 : EI Tryz.prog 63 (.agg #[.int .i64 0, .int .i64 0]) 2 16 := ⟨by kernel_rfl, rfl, by decide⟩
theorem EI66 : EI Tryz.prog 66 (.agg #[.int .i64 0, .int .i64 0, .int .i64 0, .int .i64 0, .int .i64 0, .int .i64 0, .int .i64 0, .int .i64 0, .slice none 0 0, .slice none 0 0, .slice none 0 0, .slice none 0 0, .bool false, .slice none 0 0, .slice none 0 0, .slice none 0 0, .slice none 0 0, .slice none 0 0, .bool false]) 19 296 := ⟨by kernel_rfl, rfl, by decide⟩
theorem EI69 : EI Tryz.prog 69 (.nilFunc) 1 8 := ⟨by kernel_rfl, rfl, by decide⟩
theorem EI9 : EI Tryz.prog 9 (.string ⟨#[]⟩) 1 16 := ⟨by kernel_rfl, rfl, by decide⟩
theorem FA28_0 : FA Tryz.prog 28 0 0 := fun _ _ => by kernel_rfl
theorem FA28_1 : FA Tryz.prog 28 1 1 := fun _ _ => by kernel_rfl
theorem FA28_2 : FA Tryz.prog 28 2 2 := fun _ _ => by kernel_rfl
theorem FA38_0 : FA Tryz.prog 38 0 0 := fun _ _ => by kernel_rfl
theorem FA38_1 : FA Tryz.prog 38 1 1 := fun _ _ => by kernel_rfl
theorem FA51_0 : FA Tryz.prog 51 0 0 := fun _ _ => by kernel_rfl
theorem FA51_1 : FA Tryz.prog 51 1 1 := fun _ _ => by kernel_rfl
theorem FA51_2 : FA Tryz.prog 51 2 2 := fun _ _ => by kernel_rfl
theorem FA63_0 : FA Tryz.prog 63 0 0 := fun _ _ => by kernel_rfl
theorem FA63_1 : FA Tryz.prog 63 1 1 := fun _ _ => by kernel_rfl
theorem FA66_0 : FA Tryz.prog 66 0 0 := fun _ _ => by kernel_rfl
theorem FA66_1 : FA Tryz.prog 66 1 1 := fun _ _ => by kernel_rfl
theorem FN10 : FN Tryz.prog 10 := fun _ _ => by kernel_rfl
theorem FN11 : FN Tryz.prog 11 := fun _ _ => by kernel_rfl
theorem FN12 : FN Tryz.prog 12 := fun _ _ => by kernel_rfl
theorem FN13 : FN Tryz.prog 13 := fun _ _ => by kernel_rfl
theorem FN14 : FN Tryz.prog 14 := fun _ _ => by kernel_rfl
theorem FN15 : FN Tryz.prog 15 := fun _ _ => by kernel_rfl
theorem FN16 : FN Tryz.prog 16 := fun _ _ => by kernel_rfl
theorem FN17 : FN Tryz.prog 17 := fun _ _ => by kernel_rfl
theorem FN18 : FN Tryz.prog 18 := fun _ _ => by kernel_rfl
theorem FN19 : FN Tryz.prog 19 := fun _ _ => by kernel_rfl
theorem FN20 : FN Tryz.prog 20 := fun _ _ => by kernel_rfl
theorem FN21 : FN Tryz.prog 21 := fun _ _ => by kernel_rfl
theorem FN22 : FN Tryz.prog 22 := fun _ _ => by kernel_rfl
theorem FN23 : FN Tryz.prog 23 := fun _ _ => by kernel_rfl
theorem FN24 : FN Tryz.prog 24 := fun _ _ => by kernel_rfl
theorem FN25 : FN Tryz.prog 25 := fun _ _ => by kernel_rfl
theorem FN26 : FN Tryz.prog 26 := fun _ _ => by kernel_rfl
theorem FN27 : FN Tryz.prog 27 := fun _ _ => by kernel_rfl
theorem FN28 : FN Tryz.prog 28 := fun _ _ => by kernel_rfl
theorem FN29 : FN Tryz.prog 29 := fun _ _ => by kernel_rfl
theorem FN30 : FN Tryz.prog 30 := fun _ _ => by kernel_rfl
theorem FN31 : FN Tryz.prog 31 := fun _ _ => by kernel_rfl
theorem FN32 : FN Tryz.prog 32 := fun _ _ => by kernel_rfl
theorem FN33 : FN Tryz.prog 33 := fun _ _ => by kernel_rfl
theorem FN34 : FN Tryz.prog 34 := fun _ _ => by kernel_rfl
theorem FN36 : FN Tryz.prog 36 := fun _ _ => by kernel_rfl
theorem FN37 : FN Tryz.prog 37 := fun _ _ => by kernel_rfl
theorem FN38 : FN Tryz.prog 38 := fun _ _ => by kernel_rfl
theorem FN39 : FN Tryz.prog 39 := fun _ _ => by kernel_rfl
theorem FN40 : FN Tryz.prog 40 := fun _ _ => by kernel_rfl
theorem FN41 : FN Tryz.prog 41 := fun _ _ => by kernel_rfl
theorem FN46 : FN Tryz.prog 46 := fun _ _ => by kernel_rfl
theorem FN47 : FN Tryz.prog 47 := fun _ _ => by kernel_rfl
theorem FN48 : FN Tryz.prog 48 := fun _ _ => by kernel_rfl
theorem FN49 : FN Tryz.prog 49 := fun _ _ => by kernel_rfl
theorem FN5 : FN Tryz.prog 5 := fun _ _ => by kernel_rfl
theorem FN50 : FN Tryz.prog 50 := fun _ _ => by kernel_rfl
theorem FN52 : FN Tryz.prog 52 := fun _ _ => by kernel_rfl
theorem FN53 : FN Tryz.prog 53 := fun _ _ => by kernel_rfl
theorem FN56 : FN Tryz.prog 56 := fun _ _ => by kernel_rfl
theorem FN57 : FN Tryz.prog 57 := fun _ _ => by kernel_rfl
theorem FN6 : FN Tryz.prog 6 := fun _ _ => by kernel_rfl
theorem FN7 : FN Tryz.prog 7 := fun _ _ => by kernel_rfl
theorem FN8 : FN Tryz.prog 8 := fun _ _ => by kernel_rfl
theorem FN9 : FN Tryz.prog 9 := fun _ _ => by kernel_rfl
theorem GN1 : Tryz.prog.globalNamed "internal/strconv.uint64pow10" = some 1 := by kernel_rfl
theorem NEI96 : NEI Tryz.prog 96 := ⟨fun _ => by kernel_rfl, fun _ _ _ => by kernel_rfl⟩
theorem PL28 : PL Tryz.prog 28 [(0, 1), (1, 1), (2, 1)] [.int .i64 0, .slice none 0 0, .slice none 0 0] := ⟨⟨_, Tryz.underlying28, fun _ => by kernel_rfl⟩, .agg #[.int .i64 0, .slice none 0 0, .slice none 0 0], fun _ => by kernel_rfl, rfl⟩
theorem PL38 : PL Tryz.prog 38 [(0, 1), (1, 1)] [.int .i64 0, .int .i64 0] := ⟨⟨_, Tryz.underlying38, fun _ => by kernel_rfl⟩, .agg #[.int .i64 0, .int .i64 0], fun _ => by kernel_rfl, rfl⟩
theorem PL51 : PL Tryz.prog 51 [(0, 1), (1, 1), (2, 1), (3, 2), (5, 1), (6, 1), (7, 2), (9, 2), (11, 1), (12, 2), (14, 1), (15, 1), (16, 1), (17, 1)] [.int .i64 0, .int .i64 0, .int .i64 0, .int .i64 0, .int .i64 0, .int .i64 0, .int .i64 0, .slice none 0 0, .slice none 0 0, .slice none 0 0, .slice none 0 0, .bool false, .slice none 0 0, .slice none 0 0, .slice none 0 0, .slice none 0 0, .slice none 0 0, .bool false] := ⟨⟨_, Tryz.underlying51, fun _ => by kernel_rfl⟩, .agg #[.int .i64 0, .int .i64 0, .int .i64 0, .int .i64 0, .int .i64 0, .int .i64 0, .int .i64 0, .slice none 0 0, .slice none 0 0, .slice none 0 0, .slice none 0 0, .bool false, .slice none 0 0, .slice none 0 0, .slice none 0 0, .slice none 0 0, .slice none 0 0, .bool false], fun _ => by kernel_rfl, rfl⟩
theorem PL63 : PL Tryz.prog 63 [(0, 1), (1, 1)] [.int .i64 0, .int .i64 0] := ⟨⟨_, Tryz.underlying63, fun _ => by kernel_rfl⟩, .agg #[.int .i64 0, .int .i64 0], fun _ => by kernel_rfl, rfl⟩
theorem PL66 : PL Tryz.prog 66 [(0, 1), (1, 18)] [.int .i64 0, .int .i64 0, .int .i64 0, .int .i64 0, .int .i64 0, .int .i64 0, .int .i64 0, .int .i64 0, .slice none 0 0, .slice none 0 0, .slice none 0 0, .slice none 0 0, .bool false, .slice none 0 0, .slice none 0 0, .slice none 0 0, .slice none 0 0, .slice none 0 0, .bool false] := ⟨⟨_, Tryz.underlying66, fun _ => by kernel_rfl⟩, .agg #[.int .i64 0, .int .i64 0, .int .i64 0, .int .i64 0, .int .i64 0, .int .i64 0, .int .i64 0, .int .i64 0, .slice none 0 0, .slice none 0 0, .slice none 0 0, .slice none 0 0, .bool false, .slice none 0 0, .slice none 0 0, .slice none 0 0, .slice none 0 0, .slice none 0 0, .bool false], fun _ => by kernel_rfl, rfl⟩
theorem PS22 : PS Tryz.prog 22 38 2 [.int .i64 0, .int .i64 0] := ⟨by kernel_rfl, fun _ => by kernel_rfl, .agg #[.int .i64 0, .int .i64 0], fun _ => by kernel_rfl, rfl⟩
theorem PS23 : PS Tryz.prog 23 3 1 [.int .i64 0] := ⟨by kernel_rfl, fun _ => by kernel_rfl, .int .i64 0, fun _ => by kernel_rfl, rfl⟩
theorem PS25 : PS Tryz.prog 25 66 19 [.int .i64 0, .int .i64 0, .int .i64 0, .int .i64 0, .int .i64 0, .int .i64 0, .int .i64 0, .int .i64 0, .slice none 0 0, .slice none 0 0, .slice none 0 0, .slice none 0 0, .bool false, .slice none 0 0, .slice none 0 0, .slice none 0 0, .slice none 0 0, .slice none 0 0, .bool false] := ⟨by kernel_rfl, fun _ => by kernel_rfl, .agg #[.int .i64 0, .int .i64 0, .int .i64 0, .int .i64 0, .int .i64 0, .int .i64 0, .int .i64 0, .int .i64 0, .slice none 0 0, .slice none 0 0, .slice none 0 0, .slice none 0 0, .bool false, .slice none 0 0, .slice none 0 0, .slice none 0 0, .slice none 0 0, .slice none 0 0, .bool false], fun _ => by kernel_rfl, rfl⟩
theorem PS26 : PS Tryz.prog 26 63 2 [.int .i64 0, .int .i64 0] := ⟨by kernel_rfl, fun _ => by kernel_rfl, .agg #[.int .i64 0, .int .i64 0], fun _ => by kernel_rfl, rfl⟩
theorem PS57 : PS Tryz.prog 57 51 18 [.int .i64 0, .int .i64 0, .int .i64 0, .int .i64 0, .int .i64 0, .int .i64 0, .int .i64 0, .slice none 0 0, .slice none 0 0, .slice none 0 0, .slice none 0 0, .bool false, .slice none 0 0, .slice none 0 0, .slice none 0 0, .slice none 0 0, .slice none 0 0, .bool false] := ⟨by kernel_rfl, fun _ => by kernel_rfl, .agg #[.int .i64 0, .int .i64 0, .int .i64 0, .int .i64 0, .int .i64 0, .int .i64 0, .int .i64 0, .slice none 0 0, .slice none 0 0, .slice none 0 0, .slice none 0 0, .bool false, .slice none 0 0, .slice none 0 0, .slice none 0 0, .slice none 0 0, .slice none 0 0, .bool false], fun _ => by kernel_rfl, rfl⟩
theorem PS67 : PS Tryz.prog 67 69 1 [.nilFunc] := ⟨by kernel_rfl, fun _ => by kernel_rfl, .nilFunc, fun _ => by kernel_rfl, rfl⟩
theorem PS74 : PS Tryz.prog 74 9 1 [.string ⟨#[]⟩] := ⟨by kernel_rfl, fun _ => by kernel_rfl, .string ⟨#[]⟩, fun _ => by kernel_rfl, rfl⟩
theorem PS91 : PS Tryz.prog 91 5 1 [.int .u8 0] := ⟨by kernel_rfl, fun _ => by kernel_rfl, .int .u8 0, fun _ => by kernel_rfl, rfl⟩
theorem TI25 : TI Tryz.prog 25 false 1 := ⟨fun _ => by kernel_rfl, fun _ => by kernel_rfl⟩
theorem TI26 : TI Tryz.prog 26 false 1 := ⟨fun _ => by kernel_rfl, fun _ => by kernel_rfl⟩
theorem TI28 : TI Tryz.prog 28 true 3 := ⟨fun _ => by kernel_rfl, fun _ => by kernel_rfl⟩
theorem TI3 : TI Tryz.prog 3 false 1 := ⟨fun _ => by kernel_rfl, fun _ => by kernel_rfl⟩
theorem TI38 : TI Tryz.prog 38 true 2 := ⟨fun _ => by kernel_rfl, fun _ => by kernel_rfl⟩
theorem TI51 : TI Tryz.prog 51 true 18 := ⟨fun _ => by kernel_rfl, fun _ => by kernel_rfl⟩
theorem TI63 : TI Tryz.prog 63 true 2 := ⟨fun _ => by kernel_rfl, fun _ => by kernel_rfl⟩
theorem TI66 : TI Tryz.prog 66 true 19 := ⟨fun _ => by kernel_rfl, fun _ => by kernel_rfl⟩
theorem TI69 : TI Tryz.prog 69 false 1 := ⟨fun _ => by kernel_rfl, fun _ => by kernel_rfl⟩
theorem TI74 : TI Tryz.prog 74 false 1 := ⟨fun _ => by kernel_rfl, fun _ => by kernel_rfl⟩
theorem TI77 : TI Tryz.prog 77 true 9 := ⟨fun _ => by kernel_rfl, fun _ => by kernel_rfl⟩
theorem TI9 : TI Tryz.prog 9 false 1 := ⟨fun _ => by kernel_rfl, fun _ => by kernel_rfl⟩
theorem UN109 : Tryz.prog.underlying 109 = some (.int .u64) := by kernel_rfl
theorem UN22 : Tryz.prog.underlying 22 = some (.slice 38) := by kernel_rfl
theorem UN23 : Tryz.prog.underlying 23 = some (.slice 3) := by kernel_rfl
theorem UN25 : Tryz.prog.underlying 25 = some (.slice 66) := by kernel_rfl
theorem UN26 : Tryz.prog.underlying 26 = some (.slice 63) := by kernel_rfl
theorem UN3 : Tryz.prog.underlying 3 = some (.int .i64) := by kernel_rfl
theorem UN4 : Tryz.prog.underlying 4 = some (.bool) := by kernel_rfl
theorem UN5 : Tryz.prog.underlying 5 = some (.int .u8) := by kernel_rfl
theorem UN57 : Tryz.prog.underlying 57 = some (.slice 51) := by kernel_rfl
theorem UN67 : Tryz.prog.underlying 67 = some (.slice 69) := by kernel_rfl
theorem UN74 : Tryz.prog.underlying 74 = some (.slice 9) := by kernel_rfl
theorem UN77 : Tryz.prog.underlying 77 = some (.array 9 9) := by kernel_rfl
theorem UN84 : Tryz.prog.underlying 84 = some (.map 3 3) := by kernel_rfl
theorem UN9 : Tryz.prog.underlying 9 = some (.string) := by kernel_rfl
theorem UN91 : Tryz.prog.underlying 91 = some (.slice 5) := by kernel_rfl
theorem ZA77 : ∀ w : World, (zeroValue 77).run Tryz.prog w = .ok (.agg ([bstr [], bstr [], bstr [], bstr [], bstr [], bstr [], bstr [], bstr [], bstr []] : List Value).toArray) w := fun _ => by kernel_rfl
theorem ZV28 : ZV Tryz.prog 28 [.int .i64 0, .slice none 0 0, .slice none 0 0] := ⟨.agg #[.int .i64 0, .slice none 0 0, .slice none 0 0], fun _ => by kernel_rfl, rfl⟩
theorem ZV38 : ZV Tryz.prog 38 [.int .i64 0, .int .i64 0] := ⟨.agg #[.int .i64 0, .int .i64 0], fun _ => by kernel_rfl, rfl⟩
theorem ZV51 : ZV Tryz.prog 51 [.int .i64 0, .int .i64 0, .int .i64 0, .int .i64 0, .int .i64 0, .int .i64 0, .int .i64 0, .slice none 0 0, .slice none 0 0, .slice none 0 0, .slice none 0 0, .bool false, .slice none 0 0, .slice none 0 0, .slice none 0 0, .slice none 0 0, .slice none 0 0, .bool false] := ⟨.agg #[.int .i64 0, .int .i64 0, .int .i64 0, .int .i64 0, .int .i64 0, .int .i64 0, .int .i64 0, .slice none 0 0, .slice none 0 0, .slice none 0 0, .slice none 0 0, .bool false, .slice none 0 0, .slice none 0 0, .slice none 0 0, .slice none 0 0, .slice none 0 0, .bool false], fun _ => by kernel_rfl, rfl⟩
theorem ZV63 : ZV Tryz.prog 63 [.int .i64 0, .int .i64 0] := ⟨.agg #[.int .i64 0, .int .i64 0], fun _ => by kernel_rfl, rfl⟩
theorem ZV66 : ZV Tryz.prog 66 [.int .i64 0, .int .i64 0, .int .i64 0, .int .i64 0, .int .i64 0, .int .i64 0, .int .i64 0, .int .i64 0, .slice none 0 0, .slice none 0 0, .slice none 0 0, .slice none 0 0, .bool false, .slice none 0 0, .slice none 0 0, .slice none 0 0, .slice none 0 0, .slice none 0 0, .bool false] := ⟨.agg #[.int .i64 0, .int .i64 0, .int .i64 0, .int .i64 0, .int .i64 0, .int .i64 0, .int .i64 0, .int .i64 0, .slice none 0 0, .slice none 0 0, .slice none 0 0, .slice none 0 0, .bool false, .slice none 0 0, .slice none 0 0, .slice none 0 0, .slice none 0 0, .slice none 0 0, .bool false], fun _ => by kernel_rfl, rfl⟩
theorem ZV77 : ZV Tryz.prog 77 [.string ⟨#[]⟩, .string ⟨#[]⟩, .string ⟨#[]⟩, .string ⟨#[]⟩, .string ⟨#[]⟩, .string ⟨#[]⟩, .string ⟨#[]⟩, .string ⟨#[]⟩, .string ⟨#[]⟩] := ⟨.agg #[.string ⟨#[]⟩, .string ⟨#[]⟩, .string ⟨#[]⟩, .string ⟨#[]⟩, .string ⟨#[]⟩, .string ⟨#[]⟩, .string ⟨#[]⟩, .string ⟨#[]⟩, .string ⟨#[]⟩], fun _ => by kernel_rfl, rfl⟩
theorem open_network_Network {ok0 : Nat → Prop} {w0 : Base} {w : World} {Γ : List It} {Λ : List LObj} (hs : St ok0 w0 w Γ Λ) (i : Nat) {x : network_Network} {cs : List Value} (hi : Γ[i]? = some (vl t_network_Network x (.agg cs.toArray))) : ∃ (a0 : Option Addr), ∃ (c1 : Nat), ∃ (a2 : Option Addr), ∃ (c3 : Nat), cs = [.int .i64 x.Next, .slice a0 x.Packets.length c1, .slice a2 x.Sides.length c3] := by
  obtain ⟨ok, h⟩ := hs.get i hi
  have h := R_agg h rfl
  obtain ⟨_, _, rfl, rfl, ⟨_, _, rfl, ⟨a0, c1, rfl, _, _⟩, ⟨a2, c3, rfl, _, _⟩⟩⟩ := h
  exact ⟨a0, c1, a2, c3, rfl⟩
end Go.Proofs.YthcohhpmpdijoaaGreatDoor
set_option linter.unusedVariables false
set_option maxRecDepth 100000
namespace Go.Proofs.YthcohhpmpdijoaaGreatDoor
open Go Go.RowKit Go.Shelf Go.Proofs.YthcohhpmpdijoaaGreatDoorL
def lay_itoa_ren : Go.Shelf.Ren := ⟨fun | 171 => 26 | 243 => 42 | 246 => 58 | 283 => 77 | 284 => 78 | 285 => 79 | 286 => 80 | 129 => 76 | 317 => 98 | 318 => 99 | 319 => 100 | 320 => 101 | 337 => 111 | 338 => 112 | n => n, fun | 3 => 3 | 9 => 9 | 2 => 2 | 4 => 4 | 171 => 127 | 0 => 0 | 53 => 126 | 37 => 91 | 5 => 5 | 173 => 129 | 212 => 153 | 51 => 124 | 20 => 20 | 213 => 154 | 46 => 109 | 232 => 175 | 233 => 176 | n => n, fun | 17 => 1 | 18 => 7 | 19 => 8 | n => n⟩
theorem lay_itoa : Go.Proofs.LaysM.n171 Tryz.prog lay_itoa_ren := {
  mixed := by kernel_rfl
  f129 := Tryz.func76.trans (congrArg some (by kernel_rfl))
  f171 := Tryz.func26.trans (congrArg some (by kernel_rfl))
  f243 := Tryz.func42.trans (congrArg some (by kernel_rfl))
  f246 := Tryz.func58.trans (congrArg some (by kernel_rfl))
  f283 := Tryz.func77.trans (congrArg some (by kernel_rfl))
  f284 := Tryz.func78.trans (congrArg some (by kernel_rfl))
  f285 := Tryz.func79.trans (congrArg some (by kernel_rfl))
  f286 := Tryz.func80.trans (congrArg some (by kernel_rfl))
  f317 := Tryz.func98.trans (congrArg some (by kernel_rfl))
  f318 := Tryz.func99.trans (congrArg some (by kernel_rfl))
  f319 := Tryz.func100.trans (congrArg some (by kernel_rfl))
  f320 := Tryz.func101.trans (congrArg some (by kernel_rfl))
  f337 := Tryz.func111.trans (congrArg some (by kernel_rfl))
  f338 := Tryz.func112.trans (congrArg some (by kernel_rfl))
  t0 := Tryz.underlying0
  a0 := Tryz.isAgg0
  z0 := Tryz.sizeOf0
  v0 := Tryz.zeroValue0
  t2 := Tryz.underlying2
  a2 := Tryz.isAgg2
  z2 := Tryz.sizeOf2
  v2 := Tryz.zeroValue2
  t3 := Tryz.underlying3
  a3 := Tryz.isAgg3
  z3 := Tryz.sizeOf3
  v3 := Tryz.zeroValue3
  t4 := Tryz.underlying4
  a4 := Tryz.isAgg4
  z4 := Tryz.sizeOf4
  v4 := Tryz.zeroValue4
  t5 := Tryz.underlying5
  a5 := Tryz.isAgg5
  z5 := Tryz.sizeOf5
  v5 := Tryz.zeroValue5
  t9 := Tryz.underlying9
  a9 := Tryz.isAgg9
  z9 := Tryz.sizeOf9
  v9 := Tryz.zeroValue9
  t20 := Tryz.underlying20
  a20 := Tryz.isAgg20
  z20 := Tryz.sizeOf20
  v20 := Tryz.zeroValue20
  t37 := Tryz.underlying91
  a37 := Tryz.isAgg91
  z37 := Tryz.sizeOf91
  v37 := Tryz.zeroValue91
  t46 := Tryz.underlying109
  a46 := Tryz.isAgg109
  z46 := Tryz.sizeOf109
  v46 := Tryz.zeroValue109
  t51 := Tryz.underlying124
  a51 := Tryz.isAgg124
  z51 := Tryz.sizeOf124
  v51 := Tryz.zeroValue124
  t53 := Tryz.underlying126
  a53 := Tryz.isAgg126
  z53 := Tryz.sizeOf126
  v53 := Tryz.zeroValue126
  t171 := Tryz.underlying127
  a171 := Tryz.isAgg127
  z171 := Tryz.sizeOf127
  v171 := Tryz.zeroValue127
  t173 := Tryz.underlying129
  a173 := Tryz.isAgg129
  z173 := Tryz.sizeOf129
  v173 := Tryz.zeroValue129
  t212 := Tryz.underlying153
  a212 := Tryz.isAgg153
  z212 := Tryz.sizeOf153
  v212 := Tryz.zeroValue153
  t213 := Tryz.underlying154
  a213 := Tryz.isAgg154
  z213 := Tryz.sizeOf154
  t232 := Tryz.underlying175
  a232 := Tryz.isAgg175
  z232 := Tryz.sizeOf175
  v232 := Tryz.zeroValue175
  t233 := Tryz.underlying176
  a233 := Tryz.isAgg176
  z233 := Tryz.sizeOf176
  v233 := Tryz.zeroValue176
  g17 := by kernel_rfl
  g18 := by kernel_rfl
  g19 := by kernel_rfl
  i0 := by kernel_rfl
  i2 := by kernel_rfl
  i3 := by kernel_rfl
  i4 := by kernel_rfl
  i5 := by kernel_rfl
  i9 := by kernel_rfl
  i20 := by kernel_rfl
  i37 := by kernel_rfl
  i46 := by kernel_rfl
  i51 := by kernel_rfl
  i53 := by kernel_rfl
  i171 := by kernel_rfl
  i173 := by kernel_rfl
  i212 := by kernel_rfl
  i232 := by kernel_rfl
  i233 := by kernel_rfl
  m17 := by kernel_rfl
  m18 := by kernel_rfl
  m19 := by kernel_rfl }
def lay_atoi_ren : Go.Shelf.Ren := ⟨fun | 172 => 53 | 244 => 65 | 245 => 66 | 247 => 88 | 279 => 89 | 280 => 90 | 281 => 91 | 282 => 92 | 287 => 107 | 316 => 108 | 171 => 26 | 205 => 109 | 321 => 115 | 322 => 116 | 243 => 42 | 246 => 58 | 283 => 77 | 284 => 78 | 285 => 79 | 286 => 80 | 129 => 76 | 317 => 98 | 318 => 99 | 319 => 100 | 320 => 101 | 337 => 111 | 338 => 112 | n => n, fun | 9 => 9 | 3 => 3 | 75 => 96 | 76 => 97 | 4 => 4 | 5 => 5 | 167 => 139 | 37 => 91 | 0 => 0 | 85 => 140 | 2 => 2 | 168 => 142 | 53 => 126 | 175 => 155 | 46 => 109 | 210 => 159 | 127 => 112 | 145 => 174 | 143 => 172 | 21 => 21 | 171 => 127 | 173 => 129 | 212 => 153 | 51 => 124 | 20 => 20 | 213 => 154 | 232 => 175 | 233 => 176 | 80 => 99 | n => n, fun | 15 => 3 | 16 => 4 | 17 => 1 | 18 => 7 | 19 => 8 | n => n⟩
theorem lay_atoi : Go.Proofs.LaysC.n172 Tryz.prog lay_atoi_ren := {
  mixed := by kernel_rfl
  f129 := Tryz.func76.trans (congrArg some (by kernel_rfl))
  f171 := Tryz.func26.trans (congrArg some (by kernel_rfl))
  f172 := Tryz.func53.trans (congrArg some (by kernel_rfl))
  f205 := Tryz.func109.trans (congrArg some (by kernel_rfl))
  f243 := Tryz.func42.trans (congrArg some (by kernel_rfl))
  f244 := Tryz.func65.trans (congrArg some (by kernel_rfl))
  f245 := Tryz.func66.trans (congrArg some (by kernel_rfl))
  f246 := Tryz.func58.trans (congrArg some (by kernel_rfl))
  f247 := Tryz.func88.trans (congrArg some (by kernel_rfl))
  f279 := Tryz.func89.trans (congrArg some (by kernel_rfl))
  f280 := Tryz.func90.trans (congrArg some (by kernel_rfl))
  f281 := Tryz.func91.trans (congrArg some (by kernel_rfl))
  f282 := Tryz.func92.trans (congrArg some (by kernel_rfl))
  f283 := Tryz.func77.trans (congrArg some (by kernel_rfl))
  f284 := Tryz.func78.trans (congrArg some (by kernel_rfl))
  f285 := Tryz.func79.trans (congrArg some (by kernel_rfl))
  f286 := Tryz.func80.trans (congrArg some (by kernel_rfl))
  f287 := Tryz.func107.trans (congrArg some (by kernel_rfl))
  f316 := Tryz.func108.trans (congrArg some (by kernel_rfl))
  f317 := Tryz.func98.trans (congrArg some (by kernel_rfl))
  f318 := Tryz.func99.trans (congrArg some (by kernel_rfl))
  f319 := Tryz.func100.trans (congrArg some (by kernel_rfl))
  f320 := Tryz.func101.trans (congrArg some (by kernel_rfl))
  f321 := Tryz.func115.trans (congrArg some (by kernel_rfl))
  f322 := Tryz.func116.trans (congrArg some (by kernel_rfl))
  f337 := Tryz.func111.trans (congrArg some (by kernel_rfl))
  f338 := Tryz.func112.trans (congrArg some (by kernel_rfl))
  t0 := Tryz.underlying0
  a0 := Tryz.isAgg0
  z0 := Tryz.sizeOf0
  v0 := Tryz.zeroValue0
  t2 := Tryz.underlying2
  a2 := Tryz.isAgg2
  z2 := Tryz.sizeOf2
  v2 := Tryz.zeroValue2
  t3 := Tryz.underlying3
  a3 := Tryz.isAgg3
  z3 := Tryz.sizeOf3
  v3 := Tryz.zeroValue3
  t4 := Tryz.underlying4
  a4 := Tryz.isAgg4
  z4 := Tryz.sizeOf4
  v4 := Tryz.zeroValue4
  t5 := Tryz.underlying5
  a5 := Tryz.isAgg5
  z5 := Tryz.sizeOf5
  v5 := Tryz.zeroValue5
  t9 := Tryz.underlying9
  a9 := Tryz.isAgg9
  z9 := Tryz.sizeOf9
  v9 := Tryz.zeroValue9
  t20 := Tryz.underlying20
  a20 := Tryz.isAgg20
  z20 := Tryz.sizeOf20
  v20 := Tryz.zeroValue20
  t21 := Tryz.underlying21
  a21 := Tryz.isAgg21
  z21 := Tryz.sizeOf21
  v21 := Tryz.zeroValue21
  t37 := Tryz.underlying91
  a37 := Tryz.isAgg91
  z37 := Tryz.sizeOf91
  v37 := Tryz.zeroValue91
  t46 := Tryz.underlying109
  a46 := Tryz.isAgg109
  z46 := Tryz.sizeOf109
  v46 := Tryz.zeroValue109
  t51 := Tryz.underlying124
  a51 := Tryz.isAgg124
  z51 := Tryz.sizeOf124
  v51 := Tryz.zeroValue124
  t53 := Tryz.underlying126
  a53 := Tryz.isAgg126
  z53 := Tryz.sizeOf126
  v53 := Tryz.zeroValue126
  t75 := Tryz.underlying96
  a75 := Tryz.isAgg96
  z75 := Tryz.sizeOf96
  v75 := Tryz.zeroValue96
  t76 := Tryz.underlying97
  a76 := Tryz.isAgg97
  z76 := Tryz.sizeOf97
  v76 := Tryz.zeroValue97
  t85 := Tryz.underlying140
  a85 := Tryz.isAgg140
  z85 := Tryz.sizeOf140
  v85 := Tryz.zeroValue140
  t127 := Tryz.underlying112
  a127 := Tryz.isAgg112
  z127 := Tryz.sizeOf112
  v127 := Tryz.zeroValue112
  t143 := Tryz.underlying172
  a143 := Tryz.isAgg172
  z143 := Tryz.sizeOf172
  v143 := Tryz.zeroValue172
  t145 := Tryz.underlying174
  a145 := Tryz.isAgg174
  z145 := Tryz.sizeOf174
  v145 := Tryz.zeroValue174
  t167 := Tryz.underlying139
  a167 := Tryz.isAgg139
  z167 := Tryz.sizeOf139
  v167 := Tryz.zeroValue139
  t168 := Tryz.underlying142
  a168 := Tryz.isAgg142
  z168 := Tryz.sizeOf142
  v168 := Tryz.zeroValue142
  t171 := Tryz.underlying127
  a171 := Tryz.isAgg127
  z171 := Tryz.sizeOf127
  v171 := Tryz.zeroValue127
  t173 := Tryz.underlying129
  a173 := Tryz.isAgg129
  z173 := Tryz.sizeOf129
  v173 := Tryz.zeroValue129
  t175 := Tryz.underlying155
  a175 := Tryz.isAgg155
  z175 := Tryz.sizeOf155
  v175 := Tryz.zeroValue155
  t210 := Tryz.underlying159
  a210 := Tryz.isAgg159
  z210 := Tryz.sizeOf159
  v210 := Tryz.zeroValue159
  t212 := Tryz.underlying153
  a212 := Tryz.isAgg153
  z212 := Tryz.sizeOf153
  v212 := Tryz.zeroValue153
  t213 := Tryz.underlying154
  a213 := Tryz.isAgg154
  z213 := Tryz.sizeOf154
  t232 := Tryz.underlying175
  a232 := Tryz.isAgg175
  z232 := Tryz.sizeOf175
  v232 := Tryz.zeroValue175
  t233 := Tryz.underlying176
  a233 := Tryz.isAgg176
  z233 := Tryz.sizeOf176
  v233 := Tryz.zeroValue176
  g15 := by kernel_rfl
  g16 := by kernel_rfl
  g17 := by kernel_rfl
  g18 := by kernel_rfl
  g19 := by kernel_rfl
  t80 := Tryz.underlying99
  a80 := Tryz.isAgg99
  z80 := Tryz.sizeOf99
  v80 := Tryz.zeroValue99
  i0 := by kernel_rfl
  i2 := by kernel_rfl
  i3 := by kernel_rfl
  i4 := by kernel_rfl
  i5 := by kernel_rfl
  i9 := by kernel_rfl
  i20 := by kernel_rfl
  i21 := by kernel_rfl
  i37 := by kernel_rfl
  i46 := by kernel_rfl
  i51 := by kernel_rfl
  i53 := by kernel_rfl
  i75 := by kernel_rfl
  i76 := by kernel_rfl
  i80 := by kernel_rfl
  i85 := by kernel_rfl
  i127 := by kernel_rfl
  i143 := by kernel_rfl
  i145 := by kernel_rfl
  i167 := by kernel_rfl
  i168 := by kernel_rfl
  i171 := by kernel_rfl
  i173 := by kernel_rfl
  i175 := by kernel_rfl
  i210 := by kernel_rfl
  i212 := by kernel_rfl
  i232 := by kernel_rfl
  i233 := by kernel_rfl
  m15 := by kernel_rfl
  m16 := by kernel_rfl
  m17 := by kernel_rfl
  m18 := by kernel_rfl
  m19 := by kernel_rfl
  c0 := by kernel_rfl
  c2 := by kernel_rfl
  c3 := by kernel_rfl
  c4 := by kernel_rfl
  c5 := by kernel_rfl
  c9 := by kernel_rfl
  c20 := by kernel_rfl
  c21 := by kernel_rfl
  c37 := by kernel_rfl
  c46 := by kernel_rfl
  c51 := by kernel_rfl
  c53 := by kernel_rfl
  c75 := by kernel_rfl
  c76 := by kernel_rfl
  c80 := by kernel_rfl
  c85 := by kernel_rfl
  c127 := by kernel_rfl
  c143 := by kernel_rfl
  c145 := by kernel_rfl
  c167 := by kernel_rfl
  c168 := by kernel_rfl
  c171 := by kernel_rfl
  c173 := by kernel_rfl
  c175 := by kernel_rfl
  c210 := by kernel_rfl
  c212 := by kernel_rfl
  c213 := by kernel_rfl
  c232 := by kernel_rfl
  c233 := by kernel_rfl }
def lay_split_ren : Go.Shelf.Ren := ⟨fun | 146 => 32 | 221 => 51 | 268 => 61 | 138 => 62 | 143 => 63 | 195 => 83 | 197 => 84 | 218 => 85 | 219 => 86 | 260 => 102 | 217 => 103 | 225 => 104 | 224 => 105 | 267 => 106 | 266 => 113 | 314 => 114 | n => n, fun | 9 => 9 | 31 => 74 | 3 => 3 | 4 => 4 | 0 => 0 | 105 => 135 | 21 => 21 | 5 => 5 | 46 => 109 | 119 => 164 | 139 => 167 | 138 => 166 | 146 => 168 | 51 => 124 | n => n, fun | 1 => 2 | 3 => 5 | 4 => 6 | n => n⟩
theorem lay_split : Go.Proofs.LaysM.n146 Tryz.prog lay_split_ren := {
  mixed := by kernel_rfl
  f138 := Tryz.func62.trans (congrArg some (by kernel_rfl))
  f143 := Tryz.func63.trans (congrArg some (by kernel_rfl))
  f146 := Tryz.func32.trans (congrArg some (by kernel_rfl))
  f195 := Tryz.func83.trans (congrArg some (by kernel_rfl))
  f197 := Tryz.func84.trans (congrArg some (by kernel_rfl))
  f217 := Tryz.func103.trans (congrArg some (by kernel_rfl))
  f218 := Tryz.func85.trans (congrArg some (by kernel_rfl))
  f219 := Tryz.func86.trans (congrArg some (by kernel_rfl))
  f221 := Tryz.func51.trans (congrArg some (by kernel_rfl))
  f224 := Tryz.func105.trans (congrArg some (by kernel_rfl))
  f225 := Tryz.func104.trans (congrArg some (by kernel_rfl))
  f260 := Tryz.func102.trans (congrArg some (by kernel_rfl))
  f266 := Tryz.func113.trans (congrArg some (by kernel_rfl))
  f267 := Tryz.func106.trans (congrArg some (by kernel_rfl))
  f268 := Tryz.func61.trans (congrArg some (by kernel_rfl))
  f314 := Tryz.func114.trans (congrArg some (by kernel_rfl))
  t0 := Tryz.underlying0
  a0 := Tryz.isAgg0
  z0 := Tryz.sizeOf0
  v0 := Tryz.zeroValue0
  t3 := Tryz.underlying3
  a3 := Tryz.isAgg3
  z3 := Tryz.sizeOf3
  v3 := Tryz.zeroValue3
  t4 := Tryz.underlying4
  a4 := Tryz.isAgg4
  z4 := Tryz.sizeOf4
  v4 := Tryz.zeroValue4
  t5 := Tryz.underlying5
  a5 := Tryz.isAgg5
  z5 := Tryz.sizeOf5
  v5 := Tryz.zeroValue5
  t9 := Tryz.underlying9
  a9 := Tryz.isAgg9
  z9 := Tryz.sizeOf9
  v9 := Tryz.zeroValue9
  t21 := Tryz.underlying21
  a21 := Tryz.isAgg21
  z21 := Tryz.sizeOf21
  v21 := Tryz.zeroValue21
  t31 := Tryz.underlying74
  a31 := Tryz.isAgg74
  z31 := Tryz.sizeOf74
  v31 := Tryz.zeroValue74
  t46 := Tryz.underlying109
  a46 := Tryz.isAgg109
  z46 := Tryz.sizeOf109
  v46 := Tryz.zeroValue109
  t51 := Tryz.underlying124
  a51 := Tryz.isAgg124
  z51 := Tryz.sizeOf124
  v51 := Tryz.zeroValue124
  t105 := Tryz.underlying135
  a105 := Tryz.isAgg135
  z105 := Tryz.sizeOf135
  v105 := Tryz.zeroValue135
  t119 := Tryz.underlying164
  a119 := Tryz.isAgg164
  z119 := Tryz.sizeOf164
  t138 := Tryz.underlying166
  a138 := Tryz.isAgg166
  z138 := Tryz.sizeOf166
  v138 := Tryz.zeroValue166
  t139 := Tryz.underlying167
  a139 := Tryz.isAgg167
  z139 := Tryz.sizeOf167
  v139 := Tryz.zeroValue167
  t146 := Tryz.underlying168
  a146 := Tryz.isAgg168
  z146 := Tryz.sizeOf168
  v146 := Tryz.zeroValue168
  g1 := by kernel_rfl
  g3 := by kernel_rfl
  g4 := by kernel_rfl
  i0 := by kernel_rfl
  i3 := by kernel_rfl
  i4 := by kernel_rfl
  i5 := by kernel_rfl
  i9 := by kernel_rfl
  i21 := by kernel_rfl
  i31 := by kernel_rfl
  i46 := by kernel_rfl
  i51 := by kernel_rfl
  i105 := by kernel_rfl
  i138 := by kernel_rfl
  i139 := by kernel_rfl
  i146 := by kernel_rfl
  m1 := by kernel_rfl
  s1_3 := fun w h => Go.Proofs.cell_of_shapedOpen_int (zero := #[.int .i64 0]) (t := 3) h (of_decide_eq_true (by kernel_rfl)) (by kernel_rfl) rfl (by kernel_rfl) (by kernel_rfl) Tryz.underlying3
  m3 := by kernel_rfl
  m4 := by kernel_rfl }
def lay_join_ren : Go.Shelf.Ren := ⟨fun | 156 => 27 | 165 => 43 | 166 => 44 | 169 => 45 | 240 => 59 | 241 => 60 | 276 => 81 | 277 => 82 | n => n, fun | 31 => 74 | 9 => 9 | 3 => 3 | 4 => 4 | 0 => 0 | 20 => 20 | 72 => 93 | 76 => 97 | 70 => 90 | 37 => 91 | 75 => 96 | 127 => 112 | 164 => 131 | 5 => 5 | 80 => 99 | n => n, fun | n => n⟩
theorem lay_join : Go.Proofs.Lays.n156 Tryz.prog lay_join_ren := {
  mixed := by kernel_rfl
  f156 := Tryz.func27.trans (congrArg some (by kernel_rfl))
  f165 := Tryz.func43.trans (congrArg some (by kernel_rfl))
  f166 := Tryz.func44.trans (congrArg some (by kernel_rfl))
  f169 := Tryz.func45.trans (congrArg some (by kernel_rfl))
  f240 := Tryz.func59.trans (congrArg some (by kernel_rfl))
  f241 := Tryz.func60.trans (congrArg some (by kernel_rfl))
  f276 := Tryz.func81.trans (congrArg some (by kernel_rfl))
  f277 := Tryz.func82.trans (congrArg some (by kernel_rfl))
  t0 := Tryz.underlying0
  a0 := Tryz.isAgg0
  z0 := Tryz.sizeOf0
  v0 := Tryz.zeroValue0
  t3 := Tryz.underlying3
  a3 := Tryz.isAgg3
  z3 := Tryz.sizeOf3
  v3 := Tryz.zeroValue3
  t4 := Tryz.underlying4
  a4 := Tryz.isAgg4
  z4 := Tryz.sizeOf4
  v4 := Tryz.zeroValue4
  t9 := Tryz.underlying9
  a9 := Tryz.isAgg9
  z9 := Tryz.sizeOf9
  v9 := Tryz.zeroValue9
  t20 := Tryz.underlying20
  a20 := Tryz.isAgg20
  z20 := Tryz.sizeOf20
  v20 := Tryz.zeroValue20
  t31 := Tryz.underlying74
  a31 := Tryz.isAgg74
  z31 := Tryz.sizeOf74
  v31 := Tryz.zeroValue74
  t37 := Tryz.underlying91
  a37 := Tryz.isAgg91
  z37 := Tryz.sizeOf91
  v37 := Tryz.zeroValue91
  t70 := Tryz.underlying90
  a70 := Tryz.isAgg90
  z70 := Tryz.sizeOf90
  v70 := Tryz.zeroValue90
  t72 := Tryz.underlying93
  a72 := Tryz.isAgg93
  z72 := Tryz.sizeOf93
  v72 := Tryz.zeroValue93
  t75 := Tryz.underlying96
  a75 := Tryz.isAgg96
  z75 := Tryz.sizeOf96
  v75 := Tryz.zeroValue96
  t76 := Tryz.underlying97
  a76 := Tryz.isAgg97
  z76 := Tryz.sizeOf97
  v76 := Tryz.zeroValue97
  t127 := Tryz.underlying112
  a127 := Tryz.isAgg112
  z127 := Tryz.sizeOf112
  v127 := Tryz.zeroValue112
  t164 := Tryz.underlying131
  a164 := Tryz.isAgg131
  z164 := Tryz.sizeOf131
  v164 := Tryz.zeroValue131 }
def lay_cut_ren : Go.Shelf.Ren := ⟨fun | 103 => 52 | 210 => 64 | 206 => 87 | n => n, fun | 9 => 9 | 4 => 4 | 24 => 105 | 3 => 3 | n => n, fun | n => n⟩
theorem lay_cut : Go.Proofs.Lays.n103 Tryz.prog lay_cut_ren := {
  mixed := by kernel_rfl
  f103 := Tryz.func52.trans (congrArg some (by kernel_rfl))
  f206 := Tryz.func87.trans (congrArg some (by kernel_rfl))
  f210 := Tryz.func64.trans (congrArg some (by kernel_rfl))
  t3 := Tryz.underlying3
  a3 := Tryz.isAgg3
  z3 := Tryz.sizeOf3
  v3 := Tryz.zeroValue3
  t4 := Tryz.underlying4
  a4 := Tryz.isAgg4
  z4 := Tryz.sizeOf4
  v4 := Tryz.zeroValue4
  t9 := Tryz.underlying9
  a9 := Tryz.isAgg9
  z9 := Tryz.sizeOf9
  v9 := Tryz.zeroValue9
  t24 := Tryz.underlying105
  a24 := Tryz.isAgg105
  z24 := Tryz.sizeOf105
  v24 := Tryz.zeroValue105 }

end Go.Proofs.YthcohhpmpdijoaaGreatDoor
set_option linter.unusedVariables false
set_option linter.unusedSimpArgs false
namespace Go.Proofs.YthcohhpmpdijoaaGreatDoorL
open Go

theorem w64 {x : Int} (h1 : -9223372036854775808 ≤ x) (h2 : x ≤ 9223372036854775807) : IntKind.i64.wrap x = x := by
  simp only [IntKind.wrap, IntKind.bits, IntKind.signed]; simp; split <;> omega
theorem w64n {k : Nat} (h : k < 9223372036854775807) : IntKind.i64.wrap ((k : Int) + 1) = ((k + 1 : Nat) : Int) := by
  rw [w64 (by omega) (by omega)]; omega
theorem idx_nat {α : Type} {xs : List α} {k : Nat} (h : k < xs.length) : idx xs (k : Int) = some xs[k] := by
  unfold idx
  rw [if_pos (by omega)]
  simp [h]
theorem app_of {α : Type} {b : Nat} {xs ys : List α} (h : (xs.length + ys.length) * b ≤ 140737488355328) : app b xs ys = some (xs ++ ys) := if_pos h
theorem cut_of {α : Type} {xs : List α} {l h : Int} (h1 : 0 ≤ l) (h2 : l ≤ h) (h3 : h ≤ xs.length) : cut xs l h = some ((xs.take h.toNat).drop l.toNat) := if_pos ⟨h1, h2, h3⟩
theorem letV_of {α β : Type} (e : α) (f : α → Option β) : letV e f = f e := rfl
theorem loopO_up {σ β : Type} {step : σ → Option (σ ⊕ β)} (f : Nat → σ) (n : Nat) {b : β} (hs : ∀ k, k < n → step (f k) = some (.inl (f (k + 1)))) (he : step (f n) = some (.inr b)) : loopO step (f 0) = some b := by
  have : ∀ m k, k + m = n → loopO step (f k) = some b := by
    intro m
    induction m with
    | zero => intro k hk; have : k = n := by omega
              subst this; exact loopO_done he
    | succ m ih => intro k hk; rw [loopO_next (hs k (by omega))]; exact ih (k + 1) (by omega)
  exact this n 0 (by omega)
theorem loopO_inv {σ β : Type} {step : σ → Option (σ ⊕ β)} (I : Nat → σ → Prop) (n : Nat) {s0 : σ} {Q : β → Prop} (h0 : I 0 s0)
    (hs : ∀ k s, k < n → I k s → ∃ s', step s = some (.inl s') ∧ I (k + 1) s') (he : ∀ s, I n s → ∃ b, step s = some (.inr b) ∧ Q b) : ∃ b, loopO step s0 = some b ∧ Q b := by
  have : ∀ m k s, k + m = n → I k s → ∃ b, loopO step s = some b ∧ Q b := by
    intro m
    induction m with
    | zero =>
      intro k s hk hI
      have : k = n := by omega
      subst this
      obtain ⟨b, h1, h2⟩ := he s hI
      exact ⟨b, loopO_done h1, h2⟩
    | succ m ih =>
      intro k s hk hI
      obtain ⟨s', h1, h2⟩ := hs k s (by omega) hI
      rw [loopO_next h1]
      exact ih (k + 1) s' (by omega) h2
  exact this n 0 s0 (by omega) h0
theorem loopO_ex {σ β : Type} {step : σ → Option (σ ⊕ β)} (I : Nat → σ → Prop) (n : Nat) {s0 : σ} {Q : β → Prop} (h0 : I 0 s0)
    (hs : ∀ k s, k < n → I k s → (∃ s', step s = some (.inl s') ∧ I (k + 1) s') ∨ ∃ b, step s = some (.inr b) ∧ Q b) (he : ∀ s, I n s → ∃ b, step s = some (.inr b) ∧ Q b) : ∃ b, loopO step s0 = some b ∧ Q b := by
  have : ∀ m k s, k + m = n → I k s → ∃ b, loopO step s = some b ∧ Q b := by
    intro m
    induction m with
    | zero =>
      intro k s hk hI
      have : k = n := by omega
      subst this
      obtain ⟨b, h1, h2⟩ := he s hI
      exact ⟨b, loopO_done h1, h2⟩
    | succ m ih =>
      intro k s hk hI
      rcases hs k s (by omega) hI with ⟨s', h1, h2⟩ | ⟨b, h1, h2⟩
      · rw [loopO_next h1]
        exact ih (k + 1) s' (by omega) h2
      · exact ⟨b, loopO_done h1, h2⟩
  exact this n 0 s0 (by omega) h0
theorem loopO_mu {σ β : Type} {step : σ → Option (σ ⊕ β)} (I : σ → Prop) (μ : σ → Nat) {s0 : σ} {Q : β → Prop} (h0 : I s0)
    (hs : ∀ s, I s → (∃ s', step s = some (.inl s') ∧ I s' ∧ μ s' < μ s) ∨ ∃ b, step s = some (.inr b) ∧ Q b) : ∃ b, loopO step s0 = some b ∧ Q b := by
  have : ∀ m s, μ s ≤ m → I s → ∃ b, loopO step s = some b ∧ Q b := by
    intro m
    induction m with
    | zero =>
      intro s hm hI
      rcases hs s hI with ⟨s', _, _, h3⟩ | ⟨b, h1, h2⟩
      · omega
      · exact ⟨b, loopO_done h1, h2⟩
    | succ m ih =>
      intro s hm hI
      rcases hs s hI with ⟨s', h1, h2, h3⟩ | ⟨b, h1, h2⟩
      · rw [loopO_next h1]
        exact ih s' (by omega) h2
      · exact ⟨b, loopO_done h1, h2⟩
  exact this _ s0 (Nat.le_refl _) h0
theorem half_eq {x : Int} (h1 : 0 ≤ x) (h2 : x ≤ 9223372036854775807) : shrI .u64 (IntKind.u64.wrap x) 1 = x / 2 := by
  have e : IntKind.u64.wrap x = x := by
    simp only [IntKind.wrap, IntKind.bits, IntKind.signed]; simp; omega
  rw [e, shrI]
  show x.fdiv (2 ^ 1) = x / 2
  rw [Int.fdiv_eq_ediv_of_nonneg _ (by decide)]
  rfl
theorem take_snoc {α : Type} {xs : List α} {k : Nat} (h : k < xs.length) : xs.take (k + 1) = xs.take k ++ [xs[k]] := by
  rw [List.take_succ_eq_append_getElem h]
theorem mset_keys {κ β : Type} [BEq κ] [LawfulBEq κ] (k : κ) (y : β) : ∀ l : List (κ × β), (l.map (·.1)).Nodup → ((mset l k y).map (·.1)).Nodup ∧ ∀ x, x ∈ (mset l k y).map (·.1) → x = k ∨ x ∈ l.map (·.1)
  | [], _ => by simp [mset]
  | e :: l, h => by
    simp only [List.map_cons, List.nodup_cons] at h
    unfold mset
    by_cases hk : k == e.1
    · rw [if_pos hk]
      simp only [List.map_cons, List.nodup_cons]
      exact ⟨h, fun x hx => .inr hx⟩
    · rw [if_neg hk]
      obtain ⟨h1, h2⟩ := mset_keys k y l h.2
      simp only [List.map_cons, List.nodup_cons]
      refine ⟨⟨fun hm => ?_, h1⟩, fun x hx => ?_⟩
      · rcases h2 _ hm with h3 | h3
        · exact hk (by simp [h3])
        · exact h.1 h3
      · rcases List.mem_cons.1 hx with hx | hx
        · exact .inr (List.mem_cons.2 (.inl hx))
        · rcases h2 x hx with h3 | h3
          · exact .inl h3
          · exact .inr (List.mem_cons.2 (.inr h3))
theorem mset_length {κ β : Type} [BEq κ] (k : κ) (y : β) : ∀ l : List (κ × β), (mset l k y).length ≤ l.length + 1
  | [] => by simp [mset]
  | e :: l => by
    unfold mset
    split
    · simp
    · have := mset_length k y l
      simp only [List.length_cons]
      omega
end Go.Proofs.YthcohhpmpdijoaaGreatDoorL
set_option linter.unusedVariables false
namespace Go.Proofs.YthcohhpmpdijoaaGreatDoor
open Go Go.RowKit Go.Shelf Go.Sort Go.Proofs.YthcohhpmpdijoaaGreatDoorL
def lay_sides_ren : Go.Shelf.Ren := ⟨fun | 6 => 34 | 15 => 55 | 14 => 54 | 28 => 75 | 29 => 76 | 20 => 67 | 21 => 68 | 22 => 69 | 23 => 70 | 24 => 71 | 25 => 72 | 26 => 73 | 27 => 74 | 46 => 93 | 47 => 94 | 48 => 95 | 49 => 96 | 50 => 97 | 57 => 110 | n => n, fun | 22 => 26 | 24 => 63 | 25 => 86 | 3 => 3 | 39 => 109 | 0 => 0 | 53 => 124 | 55 => 126 | 4 => 4 | 46 => 118 | 45 => 117 | 50 => 30 | 5 => 5 | 9 => 9 | 66 => 145 | 70 => 149 | 76 => 161 | 77 => 162 | n => n, fun | n => n⟩
theorem lay_sides : Go.Proofs.SlLaysF0.n6 Tryz.prog lay_sides_ren := {
  mixed := by kernel_rfl
  f6 := ⟨Tryz.f34.name, by decide, Tryz.func34.trans (congrArg some (by kernel_rfl))⟩
  f14 := ⟨Tryz.f54.name, by decide, Tryz.func54.trans (congrArg some (by kernel_rfl))⟩
  f15 := Tryz.func55.trans (congrArg some (by kernel_rfl))
  f20 := ⟨Tryz.f67.name, by decide, Tryz.func67.trans (congrArg some (by kernel_rfl))⟩
  f21 := ⟨Tryz.f68.name, by decide, Tryz.func68.trans (congrArg some (by kernel_rfl))⟩
  f22 := ⟨Tryz.f69.name, by decide, Tryz.func69.trans (congrArg some (by kernel_rfl))⟩
  f23 := ⟨Tryz.f70.name, by decide, Tryz.func70.trans (congrArg some (by kernel_rfl))⟩
  f24 := ⟨Tryz.f71.name, by decide, Tryz.func71.trans (congrArg some (by kernel_rfl))⟩
  f25 := ⟨Tryz.f72.name, by decide, Tryz.func72.trans (congrArg some (by kernel_rfl))⟩
  f26 := ⟨Tryz.f73.name, by decide, Tryz.func73.trans (congrArg some (by kernel_rfl))⟩
  f27 := ⟨Tryz.f74.name, by decide, Tryz.func74.trans (congrArg some (by kernel_rfl))⟩
  f28 := Tryz.func75.trans (congrArg some (by kernel_rfl))
  f29 := Tryz.func76.trans (congrArg some (by kernel_rfl))
  f46 := ⟨Tryz.f93.name, by decide, Tryz.func93.trans (congrArg some (by kernel_rfl))⟩
  f47 := Tryz.func94.trans (congrArg some (by kernel_rfl))
  f48 := Tryz.func95.trans (congrArg some (by kernel_rfl))
  f49 := ⟨Tryz.f96.name, by decide, Tryz.func96.trans (congrArg some (by kernel_rfl))⟩
  f50 := ⟨Tryz.f97.name, by decide, Tryz.func97.trans (congrArg some (by kernel_rfl))⟩
  f57 := ⟨Tryz.f110.name, by decide, Tryz.func110.trans (congrArg some (by kernel_rfl))⟩
  t0 := Tryz.underlying0
  a0 := Tryz.isAgg0
  z0 := Tryz.sizeOf0
  v0 := Tryz.zeroValue0
  t3 := Tryz.underlying3
  a3 := Tryz.isAgg3
  z3 := Tryz.sizeOf3
  v3 := Tryz.zeroValue3
  t4 := Tryz.underlying4
  a4 := Tryz.isAgg4
  z4 := Tryz.sizeOf4
  v4 := Tryz.zeroValue4
  t5 := Tryz.underlying5
  a5 := Tryz.isAgg5
  z5 := Tryz.sizeOf5
  v5 := Tryz.zeroValue5
  t9 := Tryz.underlying9
  a9 := Tryz.isAgg9
  z9 := Tryz.sizeOf9
  v9 := Tryz.zeroValue9
  t22 := Tryz.underlying26
  a22 := Tryz.isAgg26
  z22 := Tryz.sizeOf26
  v22 := Tryz.zeroValue26
  t25 := Tryz.underlying86
  a25 := Tryz.isAgg86
  z25 := Tryz.sizeOf86
  v25 := Tryz.zeroValue86
  t39 := Tryz.underlying109
  a39 := Tryz.isAgg109
  z39 := Tryz.sizeOf109
  v39 := Tryz.zeroValue109
  t45 := Tryz.underlying117
  a45 := Tryz.isAgg117
  z45 := Tryz.sizeOf117
  v45 := Tryz.zeroValue117
  t46 := Tryz.underlying118
  a46 := Tryz.isAgg118
  z46 := Tryz.sizeOf118
  v46 := Tryz.zeroValue118
  t50 := Tryz.underlying30
  a50 := Tryz.isAgg30
  z50 := Tryz.sizeOf30
  v50 := Tryz.zeroValue30
  t53 := Tryz.underlying124
  a53 := Tryz.isAgg124
  z53 := Tryz.sizeOf124
  v53 := Tryz.zeroValue124
  t55 := Tryz.underlying126
  a55 := Tryz.isAgg126
  z55 := Tryz.sizeOf126
  v55 := Tryz.zeroValue126
  t66 := Tryz.underlying145
  a66 := Tryz.isAgg145
  z66 := Tryz.sizeOf145
  v66 := Tryz.zeroValue145
  t70 := Tryz.underlying149
  a70 := Tryz.isAgg149
  z70 := Tryz.sizeOf149
  v70 := Tryz.zeroValue149
  t76 := Tryz.underlying161
  a76 := Tryz.isAgg161
  z76 := Tryz.sizeOf161
  v76 := Tryz.zeroValue161
  t77 := Tryz.underlying162
  a77 := Tryz.isAgg162
  z77 := Tryz.sizeOf162
  v77 := Tryz.zeroValue162 }

end Go.Proofs.YthcohhpmpdijoaaGreatDoor
set_option linter.unusedVariables false
set_option linter.unusedSimpArgs false
set_option linter.unusedSectionVars false
namespace Go.Proofs.YthcohhpmpdijoaaGreatDoorL
open Go Go.RowKit Go.Shelf Go.Sort
section
variable {P : Program} {ρ : Ren} {α : Type} [Inhabited α] {w0 : World} {F : Base} {ok : Nat → Prop}
theorem sort_calls (L : Go.Proofs.SlLaysF0.n6 P ρ) {A : Ty α} {enc : α → List Value} (henc : ∀ (ok : Nat → Prop) (w : World) (x : α) (cs : List Value), A.R ok w x cs ↔ cs = enc x) {E : TypeId} (h0 : 0 < A.sz)
    (aE : ∀ w, (isAgg (ρ.t 24)).run P w = .ok true w) (zE : ∀ w, (Go.sizeOf (ρ.t 24)).run P w = .ok A.sz w) (cf : α → α → Int) (hO : SWO (Go.Proofs.ltOf cf)) (g : Nat) (eg : ∀ args w, (callFunc g args).run P w = .ok (.enter g args) w)
    (hcmp : ∀ (W : World) (x y : α), Calls P g #[.agg (enc x).toArray, .agg (enc y).toArray] W fun e w' => e = .returned (.int .i64 (cf x y)) ∧ ∃ q os', w' = grow (W.drewN q) os')
    {a : Option Addr} {n c : Nat} {xs ys : List α} (hs : St ok F w0 [] [own A E (.slice a n c) xs]) (hf : sortU (Go.Proofs.ltOf cf) xs = some ys) :
    Calls P (ρ.f 6) #[.slice a n c, .func (.func g) #[] #[]] w0 fun e w' => ∃ v, e = .returned v ∧ ∃ y : Unit, v = .tuple #[] ∧ St ok F w' [] [own A E (.slice a n c) ys] := by
  obtain rfl := hs.ownLen 0 rfl
  have hys := sortU_perm hf
  have hsrt := sortU_sorted hO hf
  obtain ⟨⟨hpw, hsize⟩, _⟩ := guardE hf
  rcases Nat.eq_zero_or_pos xs.length with hz | hz
  · have hx0 : xs = [] := List.length_eq_zero_iff.1 hz
    subst hx0
    have hy0 : ys = [] := hys.eq_nil
    subst hy0
    refine (Go.Proofs.AnyF.slices_SortFunc_none (L := { L with }) a c (.func (.func g) #[] #[]) w0).mono ?_
    rintro e w' ⟨rfl, rfl⟩
    exact ⟨_, rfl, (), rfl, hs⟩
  obtain ⟨okr, bs, ho, hA, hn, hbs, hput⟩ := hs.split 0 rfl
  obtain ⟨gb, c', cur, e, hb, hgh, hc', hmx, hsz, hC⟩ := own_some ho hz
  cases e
  have hk : ∀ x : α, (enc x).length = A.sz := fun x => A.len ((henc okr w0 x _).2 rfl)
  have h1 : ∀ x : α, ∀ v ∈ enc x, v.oneCell' = true := fun x => A.one ((henc okr w0 x _).2 rfl)
  have hH : HoldsK enc A.sz w0 gb 0 xs.toArray := by
    intro j hj
    rw [size_flatK] at hj
    simp only [List.size_toArray] at hj
    have hjd : j / A.sz < xs.length := Nat.div_lt_of_lt_mul (by rw [Nat.mul_comm]; exact hj)
    have hjm : j % A.sz < A.sz := Nat.mod_lt _ h0
    rw [get_flatK _ _ _ _ (by simpa using hj), Nat.zero_add]
    have hel := hC.2 (j / A.sz) xs[j / A.sz] (List.getElem?_eq_getElem hjd)
    rw [henc] at hel
    have hcell : cur.toList[j]? = (enc xs[j / A.sz])[j % A.sz]? := by
      rw [← hel, List.getElem?_take, if_pos hjm, List.getElem?_drop, List.getElem?_take, Nat.div_add_mod' j A.sz, if_pos hj]
    refine ⟨?_, by simp [World.frozen?, hgh]⟩
    simp only [World.cell?, hgh]
    have e1 : (xs.toArray)[j / A.sz]! = xs[j / A.sz] := by simp [hjd]
    rw [e1]
    have e2 : (enc xs[j / A.sz])[j % A.sz]! = (enc xs[j / A.sz])[j % A.sz]'(by rw [hk]; exact hjm) := getElem!_pos _ _ _
    have e3 : cur[j]? = some ((enc xs[j / A.sz])[j % A.sz]'(by rw [hk]; exact hjm)) := by
      rw [← Array.getElem?_toList, hcell]
      exact List.getElem?_eq_getElem _
    rw [e2]
    simpa using e3
  refine (Go.Proofs.AnyQ.slices_SortFunc L A.sz aE zE enc hk h1 cf hO g #[] gb 0 c xs.toArray w0 eg (fun m os dk _ x y => by simpa using hcmp _ x y) hH (lt_of_some hgh) (by simpa using hsize)).mono ?_
  rintro e w' ⟨rfl, d', q, os, hperm, hsorted, rfl⟩
  obtain ⟨hp1, _, hp3⟩ := hperm
  simp only [List.size_toArray] at hp1
  have hd : d'.toList = ys := by
    have hpe : d'.toList.Perm xs := by
      have : (d'.extract 0 xs.toArray.size).toList = d'.toList := by rw [List.size_toArray, ← hp1]; simp
      rw [this] at hp3
      simpa using hp3
    exact sort_unique hO hpw hpe hys (pairwise_of_sortedIn (by rw [hp1]; simpa using hsorted)) hsrt
  have hyl : ys.length = xs.length := hys.length_eq
  refine ⟨_, rfl, (), rfl, hput (own A E (.slice (some ⟨gb, 0, none⟩) xs.length c) ys) [gb] _ ?_ (by simp) ?_ fun ok' hm => ?_⟩
  · rw [hb]
    refine ⟨rfl, rfl, rfl, ?_, fun k hk' hkn => ?_⟩
    · simp [Go.Proofs.sortWorldK, grow, putRowK, putRow, mapBlock, ahead]
    · have : gb ≠ k := fun e => hkn (by simp [e])
      simp only [Go.Proofs.sortWorldK, grow, putRowK, putRow, mapBlock, ahead]
      rw [Array.getElem?_append_left (by simpa using hk'), Array.getElem?_modify, if_neg this]
      rfl
  · intro b hb'
    simp only [List.mem_singleton] at hb'
    subst hb'
    refine ⟨.inl (by rw [hb]; simp), ?_⟩
    have := lt_of_some hgh
    simp [Go.Proofs.sortWorldK, grow, putRowK, putRow, mapBlock, ahead]
    omega
  · have hnew : (Go.Proofs.sortWorldK enc A.sz w0 gb 0 q d' os).heap[gb]? = some (.cells (putCells id 0 (flatK enc A.sz d') cur) E (0, 0)) := by
      have := lt_of_some hgh
      simp only [Go.Proofs.sortWorldK, grow, putRowK, putRow, mapBlock, ahead]
      rw [Array.getElem?_append_left (by simpa using this), Array.getElem?_modify, if_pos rfl, show (Go.Sort.ahead w0 q).heap[gb]? = w0.heap[gb]? from rfl, hgh]
      rfl
    have hfs : (flatK enc A.sz d').size = xs.length * A.sz := by rw [size_flatK, hp1]
    have hcurl : xs.length * A.sz ≤ cur.size := by rw [hsz]; exact Nat.mul_le_mul_right _ hc'
    have htake : (putCells id 0 (flatK enc A.sz d') cur).toList.take (xs.length * A.sz) = (flatK enc A.sz d').toList := by
      apply List.ext_getElem?
      intro j
      rw [List.getElem?_take]
      by_cases hj : j < xs.length * A.sz
      · rw [if_pos hj, Array.getElem?_toList, Array.getElem?_toList]
        have hjc : j < cur.size := by omega
        simp only [putCells, Array.getElem?_mapIdx, Array.getElem?_eq_getElem hjc, Option.map_some]
        rw [if_pos ⟨Nat.zero_le _, by omega⟩, Nat.sub_zero, getElem!_pos _ _ (by rw [hfs]; exact hj), Array.getElem?_eq_getElem (by rw [hfs]; exact hj)]
        rfl
      · rw [if_neg hj, List.getElem?_eq_none (by rw [Array.length_toList, hfs]; omega)]
    have hC2 : ∀ (ok2 : Nat → Prop) (w2 : World), Cells A ok2 w2 ys (flatK enc A.sz d').toList := by
      intro ok2 w2
      refine ⟨by rw [Array.length_toList, hfs, hyl], fun j y hj => ?_⟩
      rw [henc]
      have hjl : j < ys.length := (List.getElem?_eq_some_iff.1 hj).1
      have hjd : j < d'.size := by rw [hp1, ← hyl]; exact hjl
      have hy : d'[j]! = y := by
        rw [getElem!_pos d' j hjd]
        have := hj
        rw [← hd, Array.getElem?_toList, Array.getElem?_eq_getElem hjd] at this
        exact Option.some.inj this
      apply List.ext_getElem?
      intro i
      rw [List.getElem?_take]
      by_cases hi : i < A.sz
      · have hlt : j * A.sz + i < d'.size * A.sz := by
          have := Nat.mul_le_mul_right A.sz (show j + 1 ≤ d'.size from hjd)
          rw [Nat.add_mul, Nat.one_mul] at this
          omega
        have hdiv : (j * A.sz + i) / A.sz = j := by rw [Nat.mul_comm, Nat.mul_add_div h0, Nat.div_eq_of_lt hi, Nat.add_zero]
        have hmod : (j * A.sz + i) % A.sz = i := by rw [Nat.mul_comm, Nat.mul_add_mod, Nat.mod_eq_of_lt hi]
        have hget := get_flatK enc A.sz d' (j * A.sz + i) hlt
        rw [hdiv, hmod, hy] at hget
        rw [if_pos hi, List.getElem?_drop, Array.getElem?_toList, Array.getElem?_eq_getElem (by rw [size_flatK]; exact hlt)]
        rw [getElem!_pos _ _ (by rw [size_flatK]; exact hlt), getElem!_pos _ _ (by rw [hk]; exact hi)] at hget
        rw [hget, List.getElem?_eq_getElem (by rw [hk]; exact hi)]
      · rw [if_neg hi, List.getElem?_eq_none (by rw [hk]; omega)]
    refine .inr ⟨by show 0 < c; omega, _, by simp [Value.ownBlock], ⟨(hC2 ok' w0).1, .inr ⟨gb, c, _, by rw [hyl], Nat.zero_le _, hnew, by rw [hyl]; exact hc', hmx, by simp [putCells, hsz], ?_⟩⟩, hC2 _ _⟩
    rw [hyl, htake]
end
end Go.Proofs.YthcohhpmpdijoaaGreatDoorL
set_option linter.unusedVariables false
set_option linter.unusedSimpArgs false
set_option linter.unnecessarySimpa false
set_option maxRecDepth 20000
namespace Go.Proofs.YthcohhpmpdijoaaGreatDoor
open Go Go.RowKit Go.Shelf Go.Sort Go.Lib Go.Proofs.YthcohhpmpdijoaaGreatDoorL
theorem pl_cell {α : Type} {T : Ty α} {x : α} {g : Nat} {ok : Nat → Prop} {w : World} (h : (pl T x ⟨g, 0, none⟩).holds ok w) : ∃ cs, T.R ok w x cs ∧ ∀ v, cs[0]? = some v → w.cell? ⟨g, 0, none⟩ = some v := by
  obtain ⟨_, _, _, cs, hR, hc⟩ := h
  exact ⟨cs, hR, fun v hv => by have := hc 0 v hv; rwa [Nat.add_zero] at this⟩
theorem below_grow (w : World) (k : Nat) (os : Array Obj) : Below w.heap.size w (grow (w.drewN k) os) :=
  ⟨rfl, rfl, rfl, by simp [grow, World.drewN], fun j hj => by simp [grow, World.drewN, Array.getElem?_append_left hj]⟩
theorem strconv_Itoa.calls {ok : Nat → Prop} {w0 : World} {x1 : Int} {r : List UInt8} (hf : strconv_Itoa x1 = some r) (i0 : (vl (tTab Tryz.prog "internal/strconv.uint64pow10" 1 GN1 Go.Lib.pow10Tab) () (.int .i64 0)).holds ok w0) :
    Calls Tryz.prog 26 #[.int .i64 x1] w0 fun e w' => ∃ v, e = .returned v ∧ ∃ y : Unit, v = bstr r ∧ St ok (bz w0) w' [] [] := by
  unfold strconv_Itoa at hf
  obtain ⟨⟨h1, h2⟩, h3⟩ := guardE hf
  cases h3
  refine (Go.Proofs.Any.strconv_Itoa lay_itoa x1 h1 h2 w0 (tTab_V i0)).mono ?_
  rintro e w' ⟨he, k, os, rfl⟩
  exact ⟨_, he, (), rfl, (St.init All.nil).below (below_grow w0 k os)⟩
theorem strings_CutPrefix.calls {ok : Nat → Prop} {w0 : World} {x1 x2 : List UInt8} {r : List UInt8 × Bool} (hf : strings_CutPrefix x1 x2 = some r) :
    Calls Tryz.prog 52 #[bstr x1, bstr x2] w0 fun e w' => ∃ v, e = .returned v ∧ ∃ y : Unit, v = .tuple #[bstr r.1, .bool r.2] ∧ St ok (bz w0) w' [] [] := by
  unfold strings_CutPrefix at hf
  cases hf
  refine (Go.Proofs.Any.strings_CutPrefix lay_cut ⟨x1.toArray⟩ ⟨x2.toArray⟩ w0).mono ?_
  rintro e w' ⟨he, rfl⟩
  exact ⟨_, he, (), rfl, St.init All.nil⟩
theorem strconv_Atoi.calls {ok : Nat → Prop} {w0 : World} {x1 : List UInt8} {r : Int × Bool} (hf : strconv_Atoi x1 = some r) (i0 : (pl tErr true ⟨3, 0, none⟩).holds ok w0) (i1 : (pl tErr true ⟨4, 0, none⟩).holds ok w0) :
    Calls Tryz.prog 53 #[bstr x1] w0 fun e w' => ∃ v, e = .returned v ∧ ∃ y : Value, v = .tuple #[.int .i64 r.1, y] ∧ St ok (bz w0) w' [vl tErr r.2 y] [] := by
  unfold strconv_Atoi at hf
  obtain ⟨h1, h2⟩ := guardE hf
  have hsz : (⟨x1.toArray⟩ : ByteArray).size ≤ 281474976710656 := by simpa [ByteArray.size] using h1
  obtain ⟨cs0, ⟨v0, rfl, hv0⟩, hc0⟩ := pl_cell i0
  obtain ⟨cs1, ⟨v1, rfl, hv1⟩, hc1⟩ := pl_cell i1
  have hv0 : v0 = .nilIface ∨ ∃ te pe, v0 = .iface te pe := by rcases hv0 with ⟨h, _⟩ | ⟨_, h⟩; cases h; exact .inr h
  have hv1 : v1 = .nilIface ∨ ∃ te pe, v1 = .iface te pe := by rcases hv1 with ⟨h, _⟩ | ⟨_, h⟩; cases h; exact .inr h
  have hs0 : St ok (bz w0) w0 [] [] := St.init All.nil
  cases ha : Go.Lib.atoiAll x1 with
  | ok v =>
    rw [ha] at h2
    cases h2
    refine (Go.Proofs.Any.strconv_Atoi_ok lay_atoi ⟨x1.toArray⟩ (by omega) v ha w0).mono ?_
    rintro e w' ⟨he, hw⟩
    have hb : Below w0.heap.size w0 w' := by
      rcases hw with rfl | ⟨t, rfl⟩
      · exact Below.refl _ _
      · exact Lib.bytesWorld_below _ _ _
    exact ⟨_, he, _, rfl, (hs0.below hb).add (it := vl tErr false .nilIface) fun ok hA => tErr_V.2 (.inl ⟨rfl, rfl⟩)⟩
  | «syntax» =>
    rw [ha] at h2
    cases h2
    refine (Go.Proofs.Any.strconv_Atoi_syntax lay_atoi ⟨x1.toArray⟩ hsz ha v0 w0 (hc0 _ rfl) hv0).mono ?_
    rintro e w' ⟨n, he, _, _, hb⟩
    exact ⟨_, he, _, rfl, (hs0.below hb).add (it := vl tErr true _) fun ok hA => tErr_V.2 (.inr ⟨rfl, _, _, rfl⟩)⟩
  | range =>
    rw [ha] at h2
    cases h2
    refine (Go.Proofs.Any.strconv_Atoi_range lay_atoi ⟨x1.toArray⟩ hsz ha v1 w0 (hc1 _ rfl) hv1).mono ?_
    rintro e w' ⟨n, he, _, _, hb⟩
    exact ⟨_, he, _, rfl, (hs0.below hb).add (it := vl tErr true _) fun ok hA => tErr_V.2 (.inr ⟨rfl, _, _, rfl⟩)⟩
theorem str_cells (l : List (List UInt8)) (ok : Nat → Prop) (w : World) : Cells tStr ok w l (l.map bstr) := by
  refine ⟨by rw [List.length_map]; show _ = _ * 1; omega, fun j x hx => ?_⟩
  show _ = [bstr x]
  have hj := (List.getElem?_eq_some_iff.1 hx).1
  have e1 : (l.map bstr).drop (j * tStr.sz) = bstr x :: (l.map bstr).drop (j + 1) := by
    show (l.map bstr).drop (j * 1) = _
    rw [Nat.mul_one, List.drop_eq_getElem_cons (by simpa using hj)]
    congr 1
    rw [List.getElem_map, (List.getElem?_eq_some_iff.1 hx).2]
  rw [e1]
  rfl
theorem strings_Split.calls {ok : Nat → Prop} {w0 : World} {x1 x2 : List UInt8} {mxl : Int} {r : List (List UInt8)} (hf : strings_Split x1 x2 = some r) (i0 : (pl (tInt .i64) mxl ⟨2, 0, none⟩).holds ok w0) :
    Calls Tryz.prog 32 #[bstr x1, bstr x2] w0 fun e w' => ∃ v, e = .returned v ∧ ∃ y : Option Addr × Nat, v = .slice y.1 r.length y.2 ∧ St ok (bz w0) w' [vl (tSlice tStr) r (.slice y.1 r.length y.2)] [] := by
  unfold strings_Split at hf
  obtain ⟨⟨h1, h2⟩, h3⟩ := guardE hf
  cases h3
  obtain ⟨cs0, rfl, hc0⟩ := pl_cell i0
  have hs : (⟨x1.toArray⟩ : ByteArray).size < 4294967281 := by simpa [ByteArray.size] using h2
  have h1' : 1 ≤ (⟨x2.toArray⟩ : ByteArray).size := by simpa [ByteArray.size] using h1
  have hsplit : (Lib.splitB ⟨x2.toArray⟩ 0 (Lib.countB ⟨x1.toArray⟩ ⟨x2.toArray⟩) ⟨x1.toArray⟩).map (·.data.toList) = Go.Lib.split x1 x2 := by
    rw [Lib.splitB_data]
    rfl
  obtain ⟨R, hR⟩ : ∃ R, R = Go.Lib.split x1 x2 := ⟨_, rfl⟩
  rw [← hR] at hsplit ⊢
  have hlen : Lib.countB ⟨x1.toArray⟩ ⟨x2.toArray⟩ + 1 = R.length := by
    rw [← hsplit, List.length_map, Lib.splitB_all ⟨x2.toArray⟩ h1' 0 _ _ rfl]
  have hcells : (Lib.splitB ⟨x2.toArray⟩ 0 (Lib.countB ⟨x1.toArray⟩ ⟨x2.toArray⟩) ⟨x1.toArray⟩).map Value.string = R.map bstr := by
    rw [← hsplit, List.map_map]
    refine List.map_congr_left fun x hx => ?_
    simp [bstr, Function.comp]
  refine (Go.Proofs.Any.strings_Split { lay_split with } lay_split.i9 ⟨x1.toArray⟩ ⟨x2.toArray⟩ mxl w0 hs (hc0 _ rfl) h1').mono ?_
  rintro e w' ⟨he, hw⟩
  rw [hlen] at he
  rw [hcells] at hw
  refine ⟨_, he, (some ⟨w0.heap.size, 0, none⟩, R.length), rfl, ?_⟩
  subst hw
  have hp : 0 < R.length := by omega
  have hs0 : St ok (bz w0) w0 [] [] := St.init All.nil
  have hle : R.length ≤ 9223372036854775807 := by
    have := Lib.countB_le ⟨x2.toArray⟩ h1' (⟨x1.toArray⟩ : ByteArray).size ⟨x1.toArray⟩ (Nat.le_refl _)
    omega
  have h1 : St ok (bz w0) (w0.alloc (.cells (R.map bstr).toArray 9)) [] (own tStr 9 (.slice (some ⟨w0.heap.size, 0, none⟩) R.length R.length) R :: []) :=
    hs0.new (below_alloc w0 _) (bs := [w0.heap.size]) (by simp) (by simp [size_alloc]) fun ok ok1 hA hsub => by
      have hC1 := str_cells R ok (w0.alloc (.cells (R.map bstr).toArray 9))
      exact .inr ⟨hp, _, by simp [Value.ownBlock], ⟨hC1.1, .inr ⟨w0.heap.size, R.length, (R.map bstr).toArray, rfl, Nat.zero_le _, heap_new w0 _, Nat.le_refl _, hle, by simp [hC1.1], by rw [List.take_of_length_le (by rw [List.length_map]; show _ ≤ _ * 1; omega)]⟩⟩, hC1⟩
  exact h1.freezeOwn 0 rfl
theorem join_extra : Go.Proofs.Builder.Extra Tryz.prog lay_join_ren where
  sizeBuilder := by kernel_rfl
  liesBuilder := by kernel_rfl
  t5 := by kernel_rfl
  a5 := fun _ => by kernel_rfl
  z5 := fun _ => by kernel_rfl
  v5 := fun _ => by kernel_rfl
  infoByte := by kernel_rfl
  cellsByte := by kernel_rfl
  sizeByte := by kernel_rfl
  neB5 := by decide
theorem strings_Join.calls {ok : Nat → Prop} {w0 : World} {x1 : List (List UInt8)} {x2 : List UInt8} {a0 : Option Addr} {c0 : Nat} {r : List UInt8} (hf : strings_Join x1 x2 = some r) (i0 : (vl (tSlice tStr) x1 (.slice a0 x1.length c0)).holds ok w0) :
    Calls Tryz.prog 27 #[.slice a0 x1.length c0, bstr x2] w0 fun e w' => ∃ v, e = .returned v ∧ ∃ y : Unit, v = bstr r ∧ St ok (bz w0) w' [] [] := by
  unfold strings_Join at hf
  obtain ⟨⟨h1, h2⟩, h3⟩ := guardE hf
  cases h3
  have hs0 : St ok (bz w0) w0 [] [] := St.init All.nil
  obtain ⟨a, c, e1, hcap, hrow⟩ := tSlice_V.1 i0
  injection e1 with ea _ ec
  subst ea; subst ec
  rcases hrow with rfl | ⟨g, off, rfl, _, hlt, hc⟩
  · refine (Go.Proofs.Any.strings_Join_none lay_join join_extra a0 c0 ⟨x2.toArray⟩ w0).mono ?_
    rintro e w' ⟨he, rfl⟩
    exact ⟨_, he, (), rfl, hs0⟩
  · have hmap : (x1.map fun s => (⟨s.toArray⟩ : ByteArray)).map (·.data.toList) = x1 := by
      rw [List.map_map]
      conv => rhs; rw [← List.map_id x1]
      rfl
    have hj := Go.Proofs.Any.strings_Join lay_join join_extra g off c0 (x1.map fun s => (⟨s.toArray⟩ : ByteArray)) ⟨x2.toArray⟩ w0 (fun j x hx => by
      rw [List.getElem?_map] at hx
      obtain ⟨s, hs, rfl⟩ := Option.map_eq_some_iff.1 hx
      obtain ⟨cs, hR, hcs⟩ := hc j s hs
      have hR : cs = [bstr s] := hR
      have := hcs 0 (bstr s) (by rw [hR]; rfl)
      rwa [Nat.add_zero, show j * tStr.sz = j from Nat.mul_one j] at this) hlt (by rw [List.length_map]; exact h1) (by rw [List.length_map]; exact hcap) (by rw [hmap]; exact h2)
    rw [List.length_map, hmap] at hj
    refine hj.mono ?_
    rintro e w' ⟨he, hb⟩
    exact ⟨_, he, (), rfl, hs0.below hb⟩
theorem cmpInt (x y : Int) (W : World) : Calls Tryz.prog 36 #[.int .i64 x, .int .i64 y] W fun e w' => e = .returned (.int .i64 (cmpI x y)) ∧ w' = W := by
  unfold cmpI
  by_cases h1 : x < y
  · rw [if_pos h1]
    go_enter Tryz.func36, Tryz.ntmps36
    go_wp2
    go_ret
    exact ⟨rfl, rfl⟩
  · rw [if_neg h1]
    by_cases h2 : y < x
    · rw [if_pos h2]
      go_enter Tryz.func36, Tryz.ntmps36
      go_wp2
      go_ret
      exact ⟨rfl, rfl⟩
    · rw [if_neg h2]
      go_enter Tryz.func36, Tryz.ntmps36
      go_wp2
      go_ret
      exact ⟨rfl, rfl⟩
theorem closureSides (a b c d : Int) (W : World) : Calls Tryz.prog 35 #[.agg #[.int .i64 a, .int .i64 b], .agg #[.int .i64 c, .int .i64 d]] W fun e w' => e = .returned (.int .i64 (cmpI a c)) ∧ ∃ q os', w' = grow (W.drewN q) os' := by
  have hcon := fun W' => cmpInt a c W'
  generalize cmpI a c = r at hcon ⊢
  go_enter Tryz.func35, Tryz.ntmps35
  go_wp2_with (go_at_call 36; refine (hcon _).mono ?_; rintro e w' ⟨rfl, rfl⟩)
  go_ret
  exact ⟨rfl, 0, _, by rw [alloc_eq_grow, alloc_eq_grow, grow_grow]; rfl⟩
theorem ltOfSides : Go.Proofs.ltOf (fun x y : network_Side => cmpI x.Process y.Process) = fun x y => decide (x.Process < y.Process) := by
  funext x y
  rw [Go.Proofs.ltOf, cmpI_neg]
instance : Inhabited network_Side := ⟨⟨0, 0⟩⟩
theorem slices_SortFunc_Side.calls {ok : Nat → Prop} {w0 : World} {F : Base} {x1 : List network_Side} {a0 : Option Addr} {n0 c0 : Nat} {r : List network_Side} (hf : slices_SortFunc_Side x1 = some r) (hs : St ok F w0 [] [own t_network_Side 63 (.slice a0 n0 c0) x1]) :
    Calls Tryz.prog 34 #[.slice a0 n0 c0, .func (.func 35) #[] #[]] w0 fun e w' => ∃ v, e = .returned v ∧ ∃ y : Unit, v = .tuple #[] ∧ St ok F w' [] [own t_network_Side 63 (.slice a0 n0 c0) r] := by
  have h := sort_calls (A := t_network_Side) (enc := fun x => [.int .i64 x.Process, .int .i64 x.Side]) lay_sides (fun ok w x cs => ⟨by rintro ⟨_, _, rfl, rfl, rfl⟩; rfl, by rintro rfl; exact ⟨_, _, rfl, rfl, rfl⟩⟩) (by decide) Tryz.isAgg63 Tryz.sizeOf63
    (fun x y => cmpI x.Process y.Process) (by rw [ltOfSides]; exact swo_key fun x : network_Side => x.Process) 35 (fun _ _ => by kernel_rfl) (fun W x y => closureSides x.Process x.Side y.Process y.Side W) hs (by rw [ltOfSides]; exact hf)
  exact h
theorem decimalF_calls : ∀ (f : Nat) {ok : Nat → Prop} {w0 : World} {x1 : Int} {r : List UInt8} (hf : decimalF f x1 = some r),
    Calls Tryz.prog 28 #[.int .i64 x1] w0 fun e w' => ∃ v, e = .returned v ∧ ∃ y : Unit, v = bstr r ∧ St ok (bz w0) w' [] [] := by
  intro f
  induction f with
  | zero => intro ok w0 x1 r hf; cases hf
  | succ f ih =>
  intro ok w0 x1 r hf
  unfold decimalF at hf
  refine calls_of_W (fn := Tryz.f28) (N := 17) Tryz.func28 rfl Tryz.ntmps28 rfl ?_
  have hs : St ok (bz w0) w0 [] [] := St.init All.nil
  refine W.seqK fun K2 hK2 => ?_
  refine W.region ?_
  refine WL.assign (v := bstr ([] : List UInt8)) rfl ?_
  refine WL.nil ?_
  refine hK2 _ _ ?_
  refine W.seqK fun K3 hK3 => ?_
  refine W.seqK fun K4 hK4 => ?_
  refine W.region ?_
  refine WL.move (v := .int .i64 x1) rfl ?_
  refine WL.bin (v := .bool (decide (x1 < 10))) rfl rfl (ib_lss _ _ _) ?_
  refine WL.nil ?_
  refine hK4 _ _ ?_
  rcases iteE hf with ⟨hc5, hf⟩ | ⟨hc5, hf⟩
  · refine W.cond_true (bool_tr rfl hc5) ?_
    refine W.seqK fun K6 hK6 => ?_
    refine W.region ?_
    refine WL.move (v := .int .i64 x1) rfl ?_
    obtain ⟨x7, ex7, hf⟩ := letE hf
    refine WL.bin (v := .int .i64 x7) rfl rfl (ib_as ex7 (ib_add _ _ _)) ?_
    refine WL.convI UN3 UN5 rfl ?_
    refine WL.buildSlice (n := 1) (vs := [(0, .int .u8 (IntKind.u8.wrap x7))]) (cs := [.int .u8 (IntKind.u8.wrap x7)]) hs ⟨⟨rfl, rfl⟩, trivial⟩ (bls PS91 (by decide) rfl) (fun g8 w hs => ?_)
    have hs := hs.ownLit (A := tInt .u8) (xs := [(IntKind.u8.wrap x7)]) 0 rfl (fun ok hA => (Cells.one (T := tInt .u8) rfl)) (Nat.le_of_ble_eq_true rfl)
    have hs := hs.freezeOwn 0 rfl
    refine WL.bytesStr hs 0 rfl UN91 UN5 UN9 rfl ?_
    refine WL.assign (v := bstr (bts [(IntKind.u8.wrap x7)])) rfl ?_
    refine WL.nil ?_
    refine hK6 _ _ ?_
    refine W.ret ?_
    have hr := Option.some.inj hf; subst hr
    exact ⟨_, resOk_one rfl rfl, (), rfl, (hs.mask []).pick []⟩
  · refine W.cond_false (bool_tr rfl hc5) ?_
    refine W.skip ?_
    refine hK3 _ _ ?_
    refine W.seqK fun K9 hK9 => ?_
    refine W.region ?_
    refine WL.move (v := .int .i64 x1) rfl ?_
    obtain ⟨x10, ex10, hf⟩ := letE hf
    refine WL.bin (v := .int .i64 x10) rfl rfl (ib_as ex10 (ib_quo _ _ _ (by decide))) ?_
    obtain ⟨x11, hxx11, hf⟩ := bindE hf
    refine WL.call (vs := [.int .i64 x10]) hs FN28 ⟨rfl, trivial⟩ (fun ok hA => ih hxx11) ?_
    rintro _ w hs
    refine WL.move (v := .int .i64 x1) rfl ?_
    refine WL.bin (v := .int .i64 (Int.tmod x1 10)) rfl rfl (ib_rem _ _ _ (by decide)) ?_
    obtain ⟨x12, hxx12, hf⟩ := bindE hf
    refine WL.call (vs := [.int .i64 (Int.tmod x1 10)]) hs FN28 ⟨rfl, trivial⟩ (fun ok hA => ih hxx12) ?_
    rintro _ w hs
    obtain ⟨x13, hxx13, hf⟩ := bindE hf
    refine WL.binS (v := bstr x13) rfl rfl (sb_cat hxx13) ?_
    refine WL.assign (v := bstr x13) rfl ?_
    refine WL.nil ?_
    refine hK9 _ _ ?_
    refine W.ret ?_
    have hr := Option.some.inj hf; subst hr
    exact ⟨_, resOk_one rfl rfl, (), rfl, (hs.mask []).pick []⟩
theorem esref36_decimal.calls {ok : Nat → Prop} {w0 : World} {x1 : Int} {r : List UInt8} (hf : esref36_decimal x1 = some r) :
    Calls Tryz.prog 28 #[.int .i64 x1] w0 fun e w' => ∃ v, e = .returned v ∧ ∃ y : Unit, v = bstr r ∧ St ok (bz w0) w' [] [] := decimalF_calls 6 hf
end Go.Proofs.YthcohhpmpdijoaaGreatDoor
set_option linter.unusedVariables false
set_option linter.unusedSimpArgs false
set_option linter.unusedSectionVars false
namespace Go.Proofs.YthcohhpmpdijoaaGreatDoorL
open Go Go.RowKit
open Go.ChangeMaps (setBlock)
theorem Off.mono {bs bs' : List Nat} {a b : World} (h : Off bs a b) (k : ∀ x ∈ bs, x ∈ bs') : Off bs' a b := ⟨h.os, h.tape, h.output, h.size, fun i hi hn => h.block i hi fun hx => hn (k i hx)⟩
section
variable {κ β : Type} [BEq κ] [LawfulBEq κ] {kv : κ → Value} {V : Ty β} {ok : Nat → Prop} {w : World}
end
section
variable {P : Program} {N : Nat} {Q : QE} {ρ : Env} {w : World} {w0 : Base} {ok0 : Nat → Prop} {Γ : List It} {Λ : List LObj}
variable {d : Option Tmp} {ty : TypeId} {pos : String} {aft : Array Edge} {gd : Option (Nat × Bool)} {ops : Array Oper} {rest : List Oper}
variable {κ β : Type} [BEq κ] [LawfulBEq κ] {kv : κ → Value} {V : Ty β}
theorem WL.indexAddrA {T E : TypeId} {n : Nat} {x z : Operand} {g j m : Nat} {k : IntKind} {i : Int} {agg : Bool} {sz : Nat} (hx : ρ.ev x = .pointer (some ⟨g, j, none⟩)) (hz : ρ.ev z = .int k i) (hT : P.underlying T = some (.array n E)) (hE : TI P E agg sz) (hi : 0 ≤ i ∧ i < (n : Int)) (hm : j + i.toNat * sz = m)
    (K : WL P N ops Q rest (putE ρ d (.pointer (some ⟨g, m, none⟩))) w)
    (hg : wantedE ops ρ ⟨d, .indexAddr T x z, ty, pos, aft, gd⟩ = true := by rfl) (hd : fits N d = true := by rfl) :
    WL P N ops Q (⟨d, .indexAddr T x z, ty, pos, aft, gd⟩ :: rest) ρ w :=
  WL.value hg hd (v := .pointer (some ⟨g, m, none⟩)) (w' := w) (by
    show (do pure (Next.value (← Instr.indexAt T (ρ.ev x) (ρ.ev z))) : Sem Next).run P w = _
    rw [hx, hz]
    refine exec_v ?_
    unfold Instr.indexAt
    refine (run_bind (x := (k, i)) (w' := w) rfl).trans ?_
    refine (run_bind (run_und hT w)).trans ?_
    refine (run_bind (x := (some ⟨g, j, none⟩, n, E)) (w' := w) rfl).trans ?_
    refine (run_bind (run_und hT w)).trans ?_
    simp only [if_pos hi]
    refine (run_bind (hE.size_ w)).trans ?_
    show Result.ok _ _ = _
    rw [addr_add, hm]) K
end
end Go.Proofs.YthcohhpmpdijoaaGreatDoorL
set_option linter.unusedVariables false
set_option linter.unusedSimpArgs false
namespace Go.Proofs.YthcohhpmpdijoaaGreatDoor
open Go Go.RowKit Go.Proofs.YthcohhpmpdijoaaGreatDoorL
set_option maxRecDepth 100000
set_option maxHeartbeats 4000000
theorem network_New.calls {ok : Nat → Prop} {w0 : World}   {r : network_Network} (hf : network_New = some r)  :
    Calls Tryz.prog 17 #[] w0 fun e w' => ∃ v, e = .returned v ∧ ∃ y : (Option Addr × Nat × Nat) × (Option Addr × Nat × Nat), v = .agg ([.int .i64 r.Next, .slice y.1.1 y.1.2.1 y.1.2.2, .slice y.2.1 y.2.2.1 y.2.2.2] : List Value).toArray ∧ St ok (bz w0) w' [] [own t_network_Packet 66 (.slice y.1.1 y.1.2.1 y.1.2.2) r.Packets, own t_network_Side 63 (.slice y.2.1 y.2.2.1 y.2.2.2) r.Sides] := by
  unfold network_New at hf
  refine calls_of_W (fn := Tryz.f17) (N := 2) Tryz.func17 rfl Tryz.ntmps17 rfl ?_
  have hs : St ok (bz w0) w0 [] [] := St.init All.nil
  refine W.seqK fun K1 hK1 => ?_
  refine W.region ?_
  refine WL.alloc hs ZV28 (fun g2 w hs => ?_)
  refine WL.nil ?_
  refine hK1 _ _ ?_
  refine W.seqK fun K3 hK3 => ?_
  refine W.region ?_
  refine WL.build (vs := [(0, .int .i64 1)]) (cs := [.int .i64 1, .slice none 0 0, .slice none 0 0]) ⟨⟨rfl, rfl⟩, trivial⟩ (bld PL28 rfl) ?_
  refine WL.storeAll (vs := [.int .i64 1, .slice none 0 0, .slice none 0 0]) hs 0 rfl TI28 rfl rfl rfl rfl (ones_of rfl) rfl (fun w hs => ?_)
  refine WL.nil ?_
  refine hK3 _ _ ?_
  refine W.ret ?_
  have hr := Option.some.inj hf; subst hr
  have hs := hs.ownNil t_network_Packet 66
  have hs := hs.ownNil t_network_Side 63
  have hs := hs.front 0 rfl
  have hs := hs.front 1 rfl
  exact ⟨_, resOk_one rfl (res_all hs 2 rfl TI28 rfl rfl), ((none, 0, 0), (none, 0, 0)), rfl, (hs.mask [true, true]).pick []⟩
theorem network_New.callc {ok : Nat → Prop} {w0 : World}   {r : network_Network} (hf : network_New = some r)  :
    Calls Tryz.prog 17 #[] w0 fun e w' => ∃ v, e = .returned v ∧ ∃ y : List Value, v = .agg y.toArray ∧ St ok (bz w0) w' [vl t_network_Network r (.agg y.toArray)] [] := by
  refine (network_New.calls (ok := ok) (w0 := w0) hf).mono ?_
  rintro e w' ⟨v, rfl, ⟨⟨a4, n5, c6⟩, ⟨a7, n8, c9⟩⟩, rfl, hs⟩
  obtain rfl := hs.ownLen 0 rfl
  have hs := hs.freezeOwn 0 rfl
  obtain rfl := hs.ownLen 0 rfl
  have hs := hs.freezeOwn 0 rfl
  have hs := hs.add (it := vl t_network_Network (⟨r.Next, r.Packets, r.Sides⟩ : network_Network) (.agg [.int .i64 r.Next, .slice a4 (r.Packets).length c6, .slice a7 (r.Sides).length c9].toArray)) fun ok hA => V_agg (show t_network_Network.R ok _ _ _ from ⟨[.int .i64 r.Next], [.slice a4 (r.Packets).length c6, .slice a7 (r.Sides).length c9], rfl, rfl, ⟨[.slice a4 (r.Packets).length c6], [.slice a7 (r.Sides).length c9], rfl, (R_one (hA.get 1 rfl)), (R_one (hA.get 0 rfl))⟩⟩) rfl
  exact ⟨_, rfl, [.int .i64 r.Next, .slice a4 (r.Packets).length c6, .slice a7 (r.Sides).length c9], rfl, hs.pick [0]⟩
theorem slices_Clone_Packet.calls {ok : Nat → Prop} {w0 : World} {x1 : List network_Packet} {a2 : Option Addr} {c3 : Nat} {r : List network_Packet} (hf : slices_Clone_Packet x1 = some r) (i0 : (vl (tSlice t_network_Packet) x1 (.slice a2 x1.length c3)).holds ok w0) :
    Calls Tryz.prog 49 #[.slice a2 x1.length c3] w0 fun e w' => ∃ v, e = .returned v ∧ ∃ y : (Option Addr × Nat × Nat), v = .slice y.1 y.2.1 y.2.2 ∧ St ok (bz w0) w' [] [own t_network_Packet 66 (.slice y.1 y.2.1 y.2.2) r] := by
  unfold slices_Clone_Packet at hf
  refine calls_of_W (fn := Tryz.f49) (N := 8) Tryz.func49 rfl Tryz.ntmps49 rfl ?_
  have hs : St ok (bz w0) w0 [vl (tSlice t_network_Packet) x1 (.slice a2 x1.length c3)] [] := St.init (All.cons i0 All.nil)
  clear i0
  refine W.seqK fun K4 hK4 => ?_
  refine W.region ?_
  refine WL.assign (v := .slice none 0 0) rfl ?_
  refine WL.nil ?_
  refine hK4 _ _ ?_
  refine W.seqK fun K5 hK5 => ?_
  refine W.seqK fun K6 hK6 => ?_
  refine W.region ?_
  refine WL.move (v := .slice a2 x1.length c3) rfl ?_
  refine WL.nilEq UN25 rfl ?_
  rcases a2 with _ | ad7
  {
  obtain rfl := hs.nilx 0 rfl
  have hf : some [] = some r := by simpa [app, idx, cut] using hf
  refine WL.nil ?_
  refine hK6 _ _ ?_
  refine W.cond_true rfl ?_
  refine W.seqK fun K8 hK8 => ?_
  refine W.region ?_
  refine WL.assign (v := .slice none 0 0) rfl ?_
  refine WL.nil ?_
  refine hK8 _ _ ?_
  refine W.ret ?_
  have hr := Option.some.inj hf; subst hr
  have hs := hs.ownNil t_network_Packet 66
  exact ⟨_, resOk_one rfl rfl, (none, 0, 0), rfl, (hs.mask [true]).pick []⟩ }
  {
  refine WL.nil ?_
  refine hK6 _ _ ?_
  refine W.cond_false rfl ?_
  refine W.skip ?_
  refine hK5 _ _ ?_
  refine W.seqK fun K9 hK9 => ?_
  refine W.region ?_
  refine WL.buildSlice0 hs UN25 TI66 (fun a10 w hs => ?_)
  refine WL.move (v := .slice (some ad7) x1.length c3) rfl ?_
  have hs := hs.ownEmpty t_network_Packet 66 a10
  obtain ⟨x11, hxx11, hf⟩ := bindE hf
  obtain ⟨hbx11, hex11⟩ := appE hxx11
  refine WL.appendS (zs := x11) hs 0 rfl 0 rfl UN25 UN25 EI66 rfl rfl hbx11 (by omega) hex11 (fun v12 w hs => ?_)
  obtain ⟨a13, n15, c14, rfl⟩ := hs.ownv3 0 rfl
  refine WL.assign (v := .slice a13 n15 c14) rfl ?_
  refine WL.nil ?_
  refine hK9 _ _ ?_
  refine W.ret ?_
  have hr := Option.some.inj hf; subst hr
  exact ⟨_, resOk_one rfl rfl, (a13, n15, c14), rfl, (hs.mask [true]).pick []⟩ }
theorem slices_Clone_Packet.callc {ok : Nat → Prop} {w0 : World} {x1 : List network_Packet} {a2 : Option Addr} {c3 : Nat} {r : List network_Packet} (hf : slices_Clone_Packet x1 = some r) (i0 : (vl (tSlice t_network_Packet) x1 (.slice a2 x1.length c3)).holds ok w0) :
    Calls Tryz.prog 49 #[.slice a2 x1.length c3] w0 fun e w' => ∃ v, e = .returned v ∧ ∃ y : (Option Addr × Nat), v = .slice y.1 r.length y.2 ∧ St ok (bz w0) w' [vl (tSlice t_network_Packet) r (.slice y.1 r.length y.2)] [] := by
  refine (slices_Clone_Packet.calls (ok := ok) (w0 := w0) (x1 := x1) hf i0).mono ?_
  rintro e w' ⟨v, rfl, ⟨a16, n17, c18⟩, rfl, hs⟩
  obtain rfl := hs.ownLen 0 rfl
  have hs := hs.freezeOwn 0 rfl
  exact ⟨_, rfl, (a16, c18), rfl, hs.pick [0]⟩
theorem slices_Clone_Side.calls {ok : Nat → Prop} {w0 : World} {x1 : List network_Side} {a2 : Option Addr} {c3 : Nat} {r : List network_Side} (hf : slices_Clone_Side x1 = some r) (i0 : (vl (tSlice t_network_Side) x1 (.slice a2 x1.length c3)).holds ok w0) :
    Calls Tryz.prog 50 #[.slice a2 x1.length c3] w0 fun e w' => ∃ v, e = .returned v ∧ ∃ y : (Option Addr × Nat × Nat), v = .slice y.1 y.2.1 y.2.2 ∧ St ok (bz w0) w' [] [own t_network_Side 63 (.slice y.1 y.2.1 y.2.2) r] := by
  unfold slices_Clone_Side at hf
  refine calls_of_W (fn := Tryz.f50) (N := 8) Tryz.func50 rfl Tryz.ntmps50 rfl ?_
  have hs : St ok (bz w0) w0 [vl (tSlice t_network_Side) x1 (.slice a2 x1.length c3)] [] := St.init (All.cons i0 All.nil)
  clear i0
  refine W.seqK fun K4 hK4 => ?_
  refine W.region ?_
  refine WL.assign (v := .slice none 0 0) rfl ?_
  refine WL.nil ?_
  refine hK4 _ _ ?_
  refine W.seqK fun K5 hK5 => ?_
  refine W.seqK fun K6 hK6 => ?_
  refine W.region ?_
  refine WL.move (v := .slice a2 x1.length c3) rfl ?_
  refine WL.nilEq UN26 rfl ?_
  rcases a2 with _ | ad7
  {
  obtain rfl := hs.nilx 0 rfl
  have hf : some [] = some r := by simpa [app, idx, cut] using hf
  refine WL.nil ?_
  refine hK6 _ _ ?_
  refine W.cond_true rfl ?_
  refine W.seqK fun K8 hK8 => ?_
  refine W.region ?_
  refine WL.assign (v := .slice none 0 0) rfl ?_
  refine WL.nil ?_
  refine hK8 _ _ ?_
  refine W.ret ?_
  have hr := Option.some.inj hf; subst hr
  have hs := hs.ownNil t_network_Side 63
  exact ⟨_, resOk_one rfl rfl, (none, 0, 0), rfl, (hs.mask [true]).pick []⟩ }
  {
  refine WL.nil ?_
  refine hK6 _ _ ?_
  refine W.cond_false rfl ?_
  refine W.skip ?_
  refine hK5 _ _ ?_
  refine W.seqK fun K9 hK9 => ?_
  refine W.region ?_
  refine WL.buildSlice0 hs UN26 TI63 (fun a10 w hs => ?_)
  refine WL.move (v := .slice (some ad7) x1.length c3) rfl ?_
  have hs := hs.ownEmpty t_network_Side 63 a10
  obtain ⟨x11, hxx11, hf⟩ := bindE hf
  obtain ⟨hbx11, hex11⟩ := appE hxx11
  refine WL.appendS (zs := x11) hs 0 rfl 0 rfl UN26 UN26 EI63 rfl rfl hbx11 (by omega) hex11 (fun v12 w hs => ?_)
  obtain ⟨a13, n15, c14, rfl⟩ := hs.ownv3 0 rfl
  refine WL.assign (v := .slice a13 n15 c14) rfl ?_
  refine WL.nil ?_
  refine hK9 _ _ ?_
  refine W.ret ?_
  have hr := Option.some.inj hf; subst hr
  exact ⟨_, resOk_one rfl rfl, (a13, n15, c14), rfl, (hs.mask [true]).pick []⟩ }
theorem slices_Clone_Side.callc {ok : Nat → Prop} {w0 : World} {x1 : List network_Side} {a2 : Option Addr} {c3 : Nat} {r : List network_Side} (hf : slices_Clone_Side x1 = some r) (i0 : (vl (tSlice t_network_Side) x1 (.slice a2 x1.length c3)).holds ok w0) :
    Calls Tryz.prog 50 #[.slice a2 x1.length c3] w0 fun e w' => ∃ v, e = .returned v ∧ ∃ y : (Option Addr × Nat), v = .slice y.1 r.length y.2 ∧ St ok (bz w0) w' [vl (tSlice t_network_Side) r (.slice y.1 r.length y.2)] [] := by
  refine (slices_Clone_Side.calls (ok := ok) (w0 := w0) (x1 := x1) hf i0).mono ?_
  rintro e w' ⟨v, rfl, ⟨a16, n17, c18⟩, rfl, hs⟩
  obtain rfl := hs.ownLen 0 rfl
  have hs := hs.freezeOwn 0 rfl
  exact ⟨_, rfl, (a16, c18), rfl, hs.pick [0]⟩
theorem network_clone.calls {ok : Nat → Prop} {w0 : World} {x1 : network_Network} {v2 : Value} {r : network_Network} (hf : network_clone x1 = some r) (i0 : (vl t_network_Network x1 v2).holds ok w0) :
    Calls Tryz.prog 31 #[v2] w0 fun e w' => ∃ v, e = .returned v ∧ ∃ y : (Option Addr × Nat × Nat) × (Option Addr × Nat × Nat), v = .agg ([.int .i64 r.Next, .slice y.1.1 y.1.2.1 y.1.2.2, .slice y.2.1 y.2.2.1 y.2.2.2] : List Value).toArray ∧ St ok (bz w0) w' [] [own t_network_Packet 66 (.slice y.1.1 y.1.2.1 y.1.2.2) r.Packets, own t_network_Side 63 (.slice y.2.1 y.2.2.1 y.2.2.2) r.Sides] := by
  unfold network_clone at hf
  refine calls_of_W (fn := Tryz.f31) (N := 12) Tryz.func31 rfl Tryz.ntmps31 rfl ?_
  have hs : St ok (bz w0) w0 [vl t_network_Network x1 v2] [] := St.init (All.cons i0 All.nil)
  clear i0
  obtain ⟨cs3, hl4, rfl⟩ := hs.aggv (n := 3) 0 rfl rfl rfl
  refine W.seqK fun K5 hK5 => ?_
  refine W.region ?_
  obtain ⟨a7, c8, a9, c10, rfl⟩ := open_network_Network hs 0 rfl
  have hs := hs.add (it := vl (tSlice t_network_Packet) x1.Packets (.slice a7 (x1.Packets).length c8)) fun ok hA => V_fld F_network_Network_Packets (hA.get 0 rfl) rfl rfl rfl
  have hs := hs.add (it := vl (tSlice t_network_Side) x1.Sides (.slice a9 (x1.Sides).length c10)) fun ok hA => V_fld F_network_Network_Sides (hA.get 1 rfl) rfl rfl rfl
  refine WL.box (vs := [.int .i64 x1.Next, .slice a7 (x1.Packets).length c8, .slice a9 (x1.Sides).length c10]) hs rfl rfl (fun g6 w hs => ?_)
  refine WL.alloc hs ZV28 (fun g11 w hs => ?_)
  refine WL.nil ?_
  refine hK5 _ _ ?_
  refine W.seqK fun K12 hK12 => ?_
  obtain ⟨x13, hxx13, hf⟩ := bindE hf
  obtain ⟨x17, hxx17, hf⟩ := bindE hf
  refine W.any (by kernel_rfl) 7 3 [true, true, true, true, true, true, true, false, false, false] rfl rfl (poAt [pv (.pointer (some ⟨g6, 1, none⟩)), pv (.slice a7 (x1.Packets).length c8), pq (fun y : (Option Addr × Nat × Nat) => .slice y.1 y.2.1 y.2.2) (fun v => []) (fun v => [own t_network_Packet 66 v x13]), pv (.pointer (some ⟨g6, 2, none⟩)), pv (.slice a9 (x1.Sides).length c10), pq (fun y : (Option Addr × Nat × Nat) => .slice y.1 y.2.1 y.2.2) (fun v => []) (fun v => [own t_network_Side 63 v x17]), pv (.pointer (some ⟨g6, 1, none⟩))]) (Λ := [blk g11 28 [.int .i64 0, .slice none 0 0, .slice none 0 0], blk g6 28 [.int .i64 x1.Next, .slice a7 (x1.Packets).length c8, .slice a9 (x1.Sides).length c10]]) hs (by kernel_rfl) (by kernel_rfl) (by kernel_rfl) ⟨⟨⟨⟨⟨⟨⟨trivial, ?_⟩, ?_⟩, ?_⟩, ?_⟩, ?_⟩, ?_⟩, ?_⟩ ?_
  {
  intro ρ w Γx Λx hs hu hp
  refine WL.fieldAddr (m := 1) (hu 1 rfl) FA28_1 rfl ?_
  exact WL.nil ⟨rfl, _, rfl, rfl, hs.cutG 0 0⟩ }
  {
  intro ρ w Γx Λx hs hu hp
  have e21 : ρ 3 = .pointer (some ⟨g6, 1, none⟩) := (hp 0 rfl).1
  refine WL.load1 (v := .slice a7 (x1.Packets).length c8) hs (Λx.length + 1) (getApp rfl) TI25 e21 rfl ?_
  exact WL.nil ⟨rfl, _, rfl, rfl, hs.cutG 0 0⟩ }
  {
  intro ρ w Γx Λx hs hu hp
  have e22 : ρ 4 = .slice a7 (x1.Packets).length c8 := (hp 1 rfl).1
  refine WL.call (vs := [.slice a7 (x1.Packets).length c8]) hs FN49 ⟨e22, trivial⟩ (fun ok hA => slices_Clone_Packet.calls (x1 := x1.Packets) hxx13 (hA.get (Γx.length + 1) (getApp rfl))) ?_
  rintro ⟨a14, n15, c16⟩ w hs
  exact WL.nil ⟨rfl, _, rfl, ⟨(a14, n15, c16), rfl⟩, hs.cutG 0 0⟩ }
  {
  intro ρ w Γx Λx hs hu hp
  refine WL.fieldAddr (m := 2) (hu 1 rfl) FA28_2 rfl ?_
  exact WL.nil ⟨rfl, _, rfl, rfl, hs.cutG 0 0⟩ }
  {
  intro ρ w Γx Λx hs hu hp
  have e23 : ρ 6 = .pointer (some ⟨g6, 2, none⟩) := (hp 3 rfl).1
  refine WL.load1 (v := .slice a9 (x1.Sides).length c10) hs (Λx.length + 1) (getApp rfl) TI26 e23 rfl ?_
  exact WL.nil ⟨rfl, _, rfl, rfl, hs.cutG 0 0⟩ }
  {
  intro ρ w Γx Λx hs hu hp
  have e24 : ρ 7 = .slice a9 (x1.Sides).length c10 := (hp 4 rfl).1
  refine WL.call (vs := [.slice a9 (x1.Sides).length c10]) hs FN50 ⟨e24, trivial⟩ (fun ok hA => slices_Clone_Side.calls (x1 := x1.Sides) hxx17 (hA.get (Γx.length + 0) (getApp rfl))) ?_
  rintro ⟨a18, n19, c20⟩ w hs
  exact WL.nil ⟨rfl, _, rfl, ⟨(a18, n19, c20), rfl⟩, hs.cutG 0 0⟩ }
  {
  intro ρ w Γx Λx hs hu hp
  refine WL.fieldAddr (m := 1) (hu 1 rfl) FA28_1 rfl ?_
  exact WL.nil ⟨rfl, _, rfl, rfl, hs.cutG 0 0⟩ }
  {
  intro ρ w hs hu25 hp
  obtain ⟨⟨⟨⟨⟨⟨⟨_, hp0_⟩, hp1_⟩, hp2_⟩, hp3_⟩, hp4_⟩, hp5_⟩, hp6_⟩ := hp
  have hs : St ok (bz w0) w [vl (tSlice t_network_Side) x1.Sides (.slice a9 (x1.Sides).length c10), vl (tSlice t_network_Packet) x1.Packets (.slice a7 (x1.Packets).length c8), vl t_network_Network x1 (.agg [.int .i64 x1.Next, .slice a7 (x1.Packets).length c8, .slice a9 (x1.Sides).length c10].toArray)] [own t_network_Side 63 ((ρ 8)) x17, own t_network_Packet 66 ((ρ 5)) x13, blk g11 28 [.int .i64 0, .slice none 0 0, .slice none 0 0], blk g6 28 [.int .i64 x1.Next, .slice a7 (x1.Packets).length c8, .slice a9 (x1.Sides).length c10]] := hs
  have e26 : ρ 9 = .pointer (some ⟨g6, 1, none⟩) := hp6_
  obtain ⟨⟨a27, n29, c28⟩, e30⟩ := hp5_
  have e30 : ρ 8 = .slice a27 n29 c28 := e30
  try rw [e30] at hs
  have e31 : ρ 7 = .slice a9 (x1.Sides).length c10 := hp4_
  have e32 : ρ 6 = .pointer (some ⟨g6, 2, none⟩) := hp3_
  obtain ⟨⟨a33, n35, c34⟩, e36⟩ := hp2_
  have e36 : ρ 5 = .slice a33 n35 c34 := e36
  try rw [e36] at hs
  have e37 : ρ 4 = .slice a7 (x1.Packets).length c8 := hp1_
  have e38 : ρ 3 = .pointer (some ⟨g6, 1, none⟩) := hp0_
  refine WA.step [7] (by kernel_rfl) (by simp) ⟨?_, trivial⟩
  refine WL.store (vs := [.slice a33 n35 c34]) (cs' := [.int .i64 x1.Next, .slice a33 n35 c34, .slice a9 (x1.Sides).length c10]) hs 3 rfl TI25 e26 e36 rfl rfl (ones_of rfl) (Nat.le_of_ble_eq_true rfl) rfl (fun w hs => ?_)
  refine WL.nil ⟨rfl, _, rfl, ?_⟩
  refine WA.step [8] (by kernel_rfl) (by simp) ⟨?_, trivial⟩
  refine WL.fieldAddr (m := 2) (hu25 1 rfl) FA28_2 rfl ?_
  refine WL.nil ⟨rfl, _, rfl, ?_⟩
  refine WA.step [9] (by kernel_rfl) (by simp) ⟨?_, trivial⟩
  refine WL.store (vs := [.slice a27 n29 c28]) (cs' := [.int .i64 x1.Next, .slice a33 n35 c34, .slice a27 n29 c28]) hs 3 rfl TI26 rfl e30 rfl rfl (ones_of rfl) (Nat.le_of_ble_eq_true rfl) rfl (fun w hs => ?_)
  refine WL.nil ⟨rfl, _, rfl, ?_⟩
  refine WA.done (by kernel_rfl) ?_
  refine hK12 _ _ ?_
  refine W.seqK fun K39 hK39 => ?_
  refine W.region ?_
  refine WL.loadN (vs := [.int .i64 x1.Next, .slice a33 n35 c34, .slice a27 n29 c28]) hs 3 rfl TI28 (hu25 1 rfl) rfl rfl ?_
  refine WL.storeAll (vs := [.int .i64 x1.Next, .slice a33 n35 c34, .slice a27 n29 c28]) hs 2 rfl TI28 (hu25 2 rfl) rfl rfl rfl (ones_of rfl) rfl (fun w hs => ?_)
  refine WL.nil ?_
  refine hK39 _ _ ?_
  refine W.ret ?_
  have hr := Option.some.inj hf; subst hr
  have hs := hs.front 0 rfl
  have hs := hs.front 1 rfl
  exact ⟨_, resOk_one rfl (res_all hs 2 rfl TI28 (hu25 2 rfl) rfl), ((a33, n35, c34), (a27, n29, c28)), rfl, (hs.mask [true, true]).pick []⟩ }
theorem network_clone.callc {ok : Nat → Prop} {w0 : World} {x1 : network_Network} {v2 : Value} {r : network_Network} (hf : network_clone x1 = some r) (i0 : (vl t_network_Network x1 v2).holds ok w0) :
    Calls Tryz.prog 31 #[v2] w0 fun e w' => ∃ v, e = .returned v ∧ ∃ y : List Value, v = .agg y.toArray ∧ St ok (bz w0) w' [vl t_network_Network r (.agg y.toArray)] [] := by
  refine (network_clone.calls (ok := ok) (w0 := w0) (x1 := x1) hf i0).mono ?_
  rintro e w' ⟨v, rfl, ⟨⟨a40, n41, c42⟩, ⟨a43, n44, c45⟩⟩, rfl, hs⟩
  obtain rfl := hs.ownLen 0 rfl
  have hs := hs.freezeOwn 0 rfl
  obtain rfl := hs.ownLen 0 rfl
  have hs := hs.freezeOwn 0 rfl
  have hs := hs.add (it := vl t_network_Network (⟨r.Next, r.Packets, r.Sides⟩ : network_Network) (.agg [.int .i64 r.Next, .slice a40 (r.Packets).length c42, .slice a43 (r.Sides).length c45].toArray)) fun ok hA => V_agg (show t_network_Network.R ok _ _ _ from ⟨[.int .i64 r.Next], [.slice a40 (r.Packets).length c42, .slice a43 (r.Sides).length c45], rfl, rfl, ⟨[.slice a40 (r.Packets).length c42], [.slice a43 (r.Sides).length c45], rfl, (R_one (hA.get 1 rfl)), (R_one (hA.get 0 rfl))⟩⟩) rfl
  exact ⟨_, rfl, [.int .i64 r.Next, .slice a40 (r.Packets).length c42, .slice a43 (r.Sides).length c45], rfl, hs.pick [0]⟩
theorem network_Send.calls {ok : Nat → Prop} {w0 : World} {x1 : network_Network} {x5 : List api_Message} {v2 : Value} {a6 : Option Addr} {c7 : Nat} {r : network_Network} (hf : network_Send x1 x5 = some r) (i0 : (vl t_network_Network x1 v2).holds ok w0) (i1 : (vl (tSlice t_api_Message) x5 (.slice a6 x5.length c7)).holds ok w0) :
    Calls Tryz.prog 16 #[v2, .slice a6 x5.length c7] w0 fun e w' => ∃ v, e = .returned v ∧ ∃ y : (Option Addr × Nat × Nat) × (Option Addr × Nat × Nat), v = .agg ([.int .i64 r.Next, .slice y.1.1 y.1.2.1 y.1.2.2, .slice y.2.1 y.2.2.1 y.2.2.2] : List Value).toArray ∧ St ok (bz w0) w' [] [own t_network_Packet 66 (.slice y.1.1 y.1.2.1 y.1.2.2) r.Packets, own t_network_Side 63 (.slice y.2.1 y.2.2.1 y.2.2.2) r.Sides] := by
  unfold network_Send at hf
  refine calls_of_W (fn := Tryz.f16) (N := 34) Tryz.func16 rfl Tryz.ntmps16 rfl ?_
  have hs : St ok (bz w0) w0 [vl t_network_Network x1 v2, vl (tSlice t_api_Message) x5 (.slice a6 x5.length c7)] [] := St.init (All.cons i0 (All.cons i1 All.nil))
  clear i0 i1
  obtain ⟨cs3, hl4, rfl⟩ := hs.aggv (n := 3) 0 rfl rfl rfl
  refine W.seqK fun K8 hK8 => ?_
  refine W.region ?_
  obtain ⟨a10, c11, a12, c13, rfl⟩ := open_network_Network hs 0 rfl
  have hs := hs.add (it := vl (tSlice t_network_Packet) x1.Packets (.slice a10 (x1.Packets).length c11)) fun ok hA => V_fld F_network_Network_Packets (hA.get 0 rfl) rfl rfl rfl
  have hs := hs.add (it := vl (tSlice t_network_Side) x1.Sides (.slice a12 (x1.Sides).length c13)) fun ok hA => V_fld F_network_Network_Sides (hA.get 1 rfl) rfl rfl rfl
  refine WL.box (vs := [.int .i64 x1.Next, .slice a10 (x1.Packets).length c11, .slice a12 (x1.Sides).length c13]) hs rfl rfl (fun g9 w hs => ?_)
  refine WL.alloc hs ZV28 (fun g14 w hs => ?_)
  refine WL.nil ?_
  refine hK8 _ _ ?_
  refine W.seqK fun K15 hK15 => ?_
  refine W.region ?_
  refine WL.loadN (vs := [.int .i64 x1.Next, .slice a10 (x1.Packets).length c11, .slice a12 (x1.Sides).length c13]) hs 1 rfl TI28 rfl rfl rfl ?_
  have hs := hs.add (it := vl t_network_Network (⟨x1.Next, x1.Packets, x1.Sides⟩ : network_Network) (.agg [.int .i64 x1.Next, .slice a10 (x1.Packets).length c11, .slice a12 (x1.Sides).length c13].toArray)) fun ok hA => V_agg (show t_network_Network.R ok _ _ _ from ⟨[.int .i64 x1.Next], [.slice a10 (x1.Packets).length c11, .slice a12 (x1.Sides).length c13], rfl, rfl, ⟨[.slice a10 (x1.Packets).length c11], [.slice a12 (x1.Sides).length c13], rfl, (R_one (hA.get 1 rfl)), (R_one (hA.get 0 rfl))⟩⟩) rfl
  obtain ⟨x16, hxx16, hf⟩ := bindE hf
  refine WL.call (vs := [.agg ([.int .i64 x1.Next, .slice a10 (x1.Packets).length c11, .slice a12 (x1.Sides).length c13] : List Value).toArray]) hs FN31 ⟨rfl, trivial⟩ (fun ok hA => network_clone.calls (x1 := (⟨x1.Next, x1.Packets, x1.Sides⟩ : network_Network)) hxx16 (hA.get 0 rfl)) ?_
  rintro ⟨⟨a17, n18, c19⟩, ⟨a20, n21, c22⟩⟩ w hs
  refine WL.storeAll (vs := [.int .i64 x16.Next, .slice a17 n18 c19, .slice a20 n21 c22]) hs 3 rfl TI28 rfl rfl rfl rfl (ones_of rfl) rfl (fun w hs => ?_)
  refine WL.nil ?_
  refine hK15 _ _ ?_
  refine W.seqK fun K23 hK23 => ?_
  have Jk30 : ∀ (x25 : Int) (x26 : List network_Packet) (a27 : Option Addr) (c28 : Nat) (n29 : Nat) (ρ : Env) (w : World), ρ 2 = .pointer (some ⟨g9, 0, none⟩) → ρ 4 = .pointer (some ⟨g14, 0, none⟩) → St ok (bz w0) w [] [own t_network_Packet 66 (.slice a27 n29 c28) x26, own t_network_Side 63 (.slice a20 n21 c22) x16.Sides, blk g14 28 [.int .i64 0, .slice none 0 0, .slice none 0 0], blk g9 28 [.int .i64 x25, .slice a27 n29 c28, .slice a20 n21 c22]] → network_Send.j1 x16 x25 x26 = some r → K23 ρ w := by
    intro x25 x26 a27 c28 n29 ρ w h24_2 h24_4 hs hf
    refine hK23 _ _ ?_
    unfold network_Send.j1 at hf
    refine W.seqK fun K31 hK31 => ?_
    refine W.region ?_
    refine WL.loadN (vs := [.int .i64 x25, .slice a27 n29 c28, .slice a20 n21 c22]) hs 3 rfl TI28 h24_2 rfl rfl ?_
    refine WL.storeAll (vs := [.int .i64 x25, .slice a27 n29 c28, .slice a20 n21 c22]) hs 2 rfl TI28 h24_4 rfl rfl rfl (ones_of rfl) rfl (fun w hs => ?_)
    refine WL.nil ?_
    refine hK31 _ _ ?_
    refine W.ret ?_
    have hr := Option.some.inj hf; subst hr
    exact ⟨_, resOk_one rfl (res_all hs 2 rfl TI28 h24_4 rfl), ((a27, n29, c28), (a20, n21, c22)), rfl, (hs.mask [true, true]).pick []⟩
  refine W.seqK fun K32 hK32 => ?_
  refine W.region ?_
  refine WL.move (v := .slice a6 x5.length c7) rfl ?_
  refine WL.len (v := .slice a6 x5.length c7) rfl (len_slice UN57) ?_
  refine WL.move (v := .int .i64 0) rfl ?_
  refine WL.nil ?_
  refine hK32 _ _ ?_
  refine W.block ?_
  obtain ⟨bs40, hbs40, hfs40⟩ := bindE hf
  refine W.loop hbs40 (fun s ρ w => match s with | (x34, x35, x36) => ∃ (a37 : Option Addr), ∃ (c38 : Nat), ∃ (n39 : Nat), ρ 2 = .pointer (some ⟨g9, 0, none⟩) ∧ ρ 4 = .pointer (some ⟨g14, 0, none⟩) ∧ ρ 9 = .slice a6 x5.length c7 ∧ ρ 10 = .int .i64 (x5.length : Int) ∧ ρ 11 = .int .i64 x34 ∧ St ok (bz w0) w [vl (tSlice t_api_Message) x5 (.slice a6 x5.length c7)] [own t_network_Packet 66 (.slice a37 n39 c38) x36, own t_network_Side 63 (.slice a20 n21 c22) x16.Sides, blk g14 28 [.int .i64 0, .slice none 0 0, .slice none 0 0], blk g9 28 [.int .i64 x35, .slice a37 n39 c38, .slice a20 n21 c22]]) ⟨a17, c19, n18, rfl, rfl, rfl, rfl, rfl, (hs.mask [true, true, true, true]).pick [4]⟩ ?_
  intro s ρ w os40 hI hf hbbs40
  obtain ⟨x34, x35, x36⟩ := s
  obtain ⟨a37, c38, n39, h33_2, h33_4, h33_9, h33_10, h33_11, hs⟩ := hI
  unfold network_Send.l1 at hf
  refine W.seqK fun K41 hK41 => ?_
  refine W.region ?_
  refine WL.bin (v := .bool (decide (x34 < (x5.length : Int)))) h33_11 h33_10 (ib_lss _ _ _) ?_
  refine WL.nil ?_
  refine hK41 _ _ ?_
  refine W.seqK fun K42 hK42 => ?_
  rcases iteE hf with ⟨hc43, hf⟩ | ⟨hc43, hf⟩
  {
  refine W.cond_true (bool_tr rfl hc43) ?_
  refine W.skip ?_
  refine hK42 _ _ ?_
  refine W.seqK fun K44 hK44 => ?_
  refine W.block ?_
  refine W.seqK fun K45 hK45 => ?_
  refine W.region ?_
  obtain ⟨x46, hxx46, hf⟩ := bindE hf
  refine WL.indexAddr hs 0 rfl UN57 TI51 h33_9 h33_11 hxx46 (fun ad47 hs => ?_)
  refine WL.loadP hs 0 rfl TI51 (.inl rfl) rfl (fun v48 hs => ?_)
  obtain ⟨cs49, hl50, rfl⟩ := hs.aggv (n := 18) 0 rfl rfl rfl
  refine WL.alloc hs ZV51 (fun g51 w hs => ?_)
  refine WL.storeAll (vs := cs49) hs 0 rfl TI51 rfl rfl rfl hl50 (hs.ones 0 rfl rfl) rfl (fun w hs => ?_)
  refine WL.nil ?_
  refine hK45 _ _ ?_
  refine W.seqK fun K52 hK52 => ?_
  refine W.seqK fun K53 hK53 => ?_
  refine W.region ?_
  refine WL.fieldAddr (m := 1) h33_2 FA28_1 rfl ?_
  refine WL.load1 (v := .slice a37 n39 c38) hs 4 rfl TI25 rfl rfl ?_
  refine WL.len (v := .slice a37 n39 c38) rfl (len_own hs 1 rfl UN25) ?_
  refine WL.bin (v := .bool (decide (4096 ≤ (x36.length : Int)))) rfl rfl (ib_geq _ _ _) ?_
  refine WL.nil ?_
  refine hK53 _ _ ?_
  rcases iteE hf with ⟨hc54, hf⟩ | ⟨hc54, hf⟩
  {
  refine W.cond_true (bool_tr rfl hc54) ?_
  refine W.exit ?_
  have hr := Option.some.inj hf; subst hr
  have hr := hbbs40 _ rfl; subst hr
  have hf := hfs40
  exact Jk30 x35 x36 a37 c38 n39 _ _ h33_2 h33_4 ((hs.mask [false, true, true, true, true]).pick []) hf }
  {
  refine W.cond_false (bool_tr rfl hc54) ?_
  refine W.skip ?_
  refine hK52 _ _ ?_
  refine W.seqK fun K55 hK55 => ?_
  refine W.region ?_
  refine WL.fieldAddr (m := 1) h33_2 FA28_1 rfl ?_
  refine WL.load1 (v := .slice a37 n39 c38) hs 4 rfl TI25 rfl rfl ?_
  refine WL.fieldAddr (m := 0) h33_2 FA28_0 rfl ?_
  refine WL.load1 (v := .int .i64 x35) hs 4 rfl TI3 rfl rfl ?_
  refine WL.loadAll hs 0 rfl TI51 rfl hl50 ?_
  refine WL.build (vs := [(0, .int .i64 x35), (1, .agg cs49.toArray)]) (cs := ([.int .i64 x35] : List Value) ++ cs49) ⟨⟨rfl, rfl⟩, ⟨⟨rfl, rfl⟩, trivial⟩⟩ (bld PL66 (by simp [fillL, Value.cells, hl50])) ?_
  refine WL.buildSlice (n := 1) (vs := [(0, .agg (([.int .i64 x35] : List Value) ++ cs49 : List Value).toArray)]) (cs := ([.int .i64 x35] : List Value) ++ cs49) hs ⟨⟨rfl, rfl⟩, trivial⟩ (bls PS25 (by decide) (by simp [fillS, fillL, Value.cells, hl50])) (fun g56 w hs => ?_)
  obtain ⟨x57, hxx57, hf⟩ := bindE hf
  obtain ⟨hbx57, hex57⟩ := appE hxx57
  refine WL.append (ys := [(⟨x35, x46⟩ : network_Packet)]) (zs := x57) hs 2 rfl 0 rfl UN25 EI66 rfl rfl (fun ok hA => (Cells.one (T := t_network_Packet) (show t_network_Packet.R ok _ (⟨x35, x46⟩ : network_Packet) _ from ⟨[.int .i64 x35], cs49, by simp, rfl, (R_agg (hA.get 0 rfl) rfl)⟩))) hbx57 (by omega) hex57 (fun v58 w hs => ?_)
  obtain ⟨a59, n61, c60, rfl⟩ := hs.ownv3 2 rfl
  refine WL.fieldAddr (m := 1) h33_2 FA28_1 rfl ?_
  refine WL.store (vs := [.slice a59 n61 c60]) (cs' := [.int .i64 x35, .slice a59 n61 c60, .slice a20 n21 c22]) hs 5 rfl TI25 rfl rfl rfl rfl (ones_of rfl) (Nat.le_of_ble_eq_true rfl) rfl (fun w hs => ?_)
  refine WL.nil ?_
  refine hK55 _ _ ?_
  refine W.region ?_
  refine WL.fieldAddr (m := 0) h33_2 FA28_0 rfl ?_
  refine WL.load1 (v := .int .i64 x35) hs 5 rfl TI3 rfl rfl ?_
  obtain ⟨x62, ex62, hf⟩ := letE hf
  refine WL.bin (v := .int .i64 x62) rfl rfl (ib_as ex62 (ib_add _ _ _)) ?_
  refine WL.fieldAddr (m := 0) h33_2 FA28_0 rfl ?_
  refine WL.store (vs := [.int .i64 x62]) (cs' := [.int .i64 x62, .slice a59 n61 c60, .slice a20 n21 c22]) hs 5 rfl TI3 rfl rfl rfl rfl (ones_of rfl) (Nat.le_of_ble_eq_true rfl) rfl (fun w hs => ?_)
  refine WL.nil ?_
  refine hK44 _ _ ?_
  refine W.region ?_
  obtain ⟨x63, ex63, hf⟩ := letE hf
  refine WL.bin (v := .int .i64 x63) h33_11 rfl (ib_as ex63 (ib_add _ _ _)) ?_
  refine WL.move (v := .int .i64 x63) rfl ?_
  refine WL.nil ?_
  exact ⟨_, (Option.some.inj hf).symm, a59, c60, n61, h33_2, h33_4, h33_9, h33_10, rfl, (hs.mask [false, false, true, true, true, true]).pick [2]⟩ } }
  {
  refine W.cond_false (bool_tr rfl hc43) ?_
  refine W.exit ?_
  have hr := Option.some.inj hf; subst hr
  have hr := hbbs40 _ rfl; subst hr
  have hf := hfs40
  exact Jk30 x35 x36 a37 c38 n39 _ _ h33_2 h33_4 ((hs.mask [true, true, true, true]).pick []) hf }
theorem network_Send.callc {ok : Nat → Prop} {w0 : World} {x1 : network_Network} {x5 : List api_Message} {v2 : Value} {a6 : Option Addr} {c7 : Nat} {r : network_Network} (hf : network_Send x1 x5 = some r) (i0 : (vl t_network_Network x1 v2).holds ok w0) (i1 : (vl (tSlice t_api_Message) x5 (.slice a6 x5.length c7)).holds ok w0) :
    Calls Tryz.prog 16 #[v2, .slice a6 x5.length c7] w0 fun e w' => ∃ v, e = .returned v ∧ ∃ y : List Value, v = .agg y.toArray ∧ St ok (bz w0) w' [vl t_network_Network r (.agg y.toArray)] [] := by
  refine (network_Send.calls (ok := ok) (w0 := w0) (x1 := x1) (x5 := x5) hf i0 i1).mono ?_
  rintro e w' ⟨v, rfl, ⟨⟨a66, n67, c68⟩, ⟨a69, n70, c71⟩⟩, rfl, hs⟩
  obtain rfl := hs.ownLen 0 rfl
  have hs := hs.freezeOwn 0 rfl
  obtain rfl := hs.ownLen 0 rfl
  have hs := hs.freezeOwn 0 rfl
  have hs := hs.add (it := vl t_network_Network (⟨r.Next, r.Packets, r.Sides⟩ : network_Network) (.agg [.int .i64 r.Next, .slice a66 (r.Packets).length c68, .slice a69 (r.Sides).length c71].toArray)) fun ok hA => V_agg (show t_network_Network.R ok _ _ _ from ⟨[.int .i64 r.Next], [.slice a66 (r.Packets).length c68, .slice a69 (r.Sides).length c71], rfl, rfl, ⟨[.slice a66 (r.Packets).length c68], [.slice a69 (r.Sides).length c71], rfl, (R_one (hA.get 1 rfl)), (R_one (hA.get 0 rfl))⟩⟩) rfl
  exact ⟨_, rfl, [.int .i64 r.Next, .slice a66 (r.Packets).length c68, .slice a69 (r.Sides).length c71], rfl, hs.pick [0]⟩
theorem adversary_parseRule.calls {ok : Nat → Prop} {w0 : World} {x1 : List UInt8}  {r : adversary_Rule} (hf : adversary_parseRule x1 = some r) (i0 : (pl (tSlice tStr) words_ (⟨0, 0, none⟩)).holds ok w0) (i1 : (pl tErr true (⟨3, 0, none⟩)).holds ok w0) (i2 : (pl tErr true (⟨4, 0, none⟩)).holds ok w0) :
    Calls Tryz.prog 33 #[bstr x1] w0 fun e w' => ∃ v, e = .returned v ∧ ∃ y : List Value, v = .agg y.toArray ∧ St ok (bz w0) w' [vl t_adversary_Rule r (.agg y.toArray)] [] := by
  unfold adversary_parseRule at hf
  refine calls_of_W (fn := Tryz.f33) (N := 45) Tryz.func33 rfl Tryz.ntmps33 rfl ?_
  have hs : St ok (bz w0) w0 [pl (tSlice tStr) words_ (⟨0, 0, none⟩), pl tErr true (⟨3, 0, none⟩), pl tErr true (⟨4, 0, none⟩)] [] := St.init (All.cons i0 (All.cons i1 (All.cons i2 All.nil)))
  clear i0 i1 i2
  refine W.seqK fun K2 hK2 => ?_
  refine W.region ?_
  refine WL.alloc hs ZV38 (fun g3 w hs => ?_)
  refine WL.nil ?_
  refine hK2 _ _ ?_
  refine W.seqK fun K4 hK4 => ?_
  have Jk8 : ∀ (x6 : Int) (x7 : Int) (ρ : Env) (w : World), ρ 2 = .pointer (some ⟨g3, 0, none⟩) → St ok (bz w0) w [pl (tSlice tStr) words_ (⟨0, 0, none⟩), pl tErr true (⟨3, 0, none⟩), pl tErr true (⟨4, 0, none⟩)] [blk g3 38 [.int .i64 x6, .int .i64 x7]] → adversary_parseRule.j1 x6 x7 = some r → K4 ρ w := by
    intro x6 x7 ρ w h5_2 hs hf
    refine hK4 _ _ ?_
    unfold adversary_parseRule.j1 at hf
    refine W.seqK fun K9 hK9 => ?_
    refine W.region ?_
    refine WL.build (vs := []) (cs := [.int .i64 0, .int .i64 0]) trivial (bld PL38 rfl) ?_
    refine WL.storeAll (vs := [.int .i64 0, .int .i64 0]) hs 0 rfl TI38 h5_2 rfl rfl rfl (ones_of rfl) rfl (fun w hs => ?_)
    refine WL.nil ?_
    refine hK9 _ _ ?_
    refine W.ret ?_
    have hr := Option.some.inj hf; subst hr
    have hs := hs.add (it := vl t_adversary_Rule (⟨0, 0⟩ : adversary_Rule) (.agg [.int .i64 0, .int .i64 0].toArray)) fun ok hA => V_agg (show t_adversary_Rule.R ok _ _ _ from ⟨[.int .i64 0], [.int .i64 0], rfl, rfl, rfl⟩) rfl
    exact ⟨_, resOk_one rfl (res_all hs 0 rfl TI38 h5_2 rfl), [.int .i64 0, .int .i64 0], rfl, (hs.mask []).pick [0]⟩
  refine W.seqK fun K10 hK10 => ?_
  refine W.region ?_
  refine WL.assign (v := .int .i64 1) rfl ?_
  refine WL.nil ?_
  refine hK10 _ _ ?_
  refine W.block ?_
  obtain ⟨bs15, hbs15, hfs15⟩ := bindE hf
  refine W.loop hbs15 (fun s ρ w => match s with | (x12, x13, x14) => ρ 0 = bstr x1 ∧ ρ 2 = .pointer (some ⟨g3, 0, none⟩) ∧ ρ 3 = .int .i64 x12 ∧ St ok (bz w0) w [pl (tSlice tStr) words_ (⟨0, 0, none⟩), pl tErr true (⟨3, 0, none⟩), pl tErr true (⟨4, 0, none⟩)] [blk g3 38 [.int .i64 x13, .int .i64 x14]]) ⟨rfl, rfl, rfl, (hs.mask [true]).pick [0, 1, 2]⟩ ?_
  intro s ρ w os15 hI hf hbbs15
  obtain ⟨x12, x13, x14⟩ := s
  obtain ⟨h11_0, h11_2, h11_3, hs⟩ := hI
  unfold adversary_parseRule.l1 at hf
  refine W.seqK fun K16 hK16 => ?_
  refine W.seqK fun K17 hK17 => ?_
  refine W.region ?_
  refine WL.move (v := .int .i64 x12) h11_3 ?_
  refine WL.bin (v := .bool (decide (x12 ≤ 9))) rfl rfl (ib_leq _ _ _) ?_
  refine WL.nil ?_
  refine hK17 _ _ ?_
  rcases iteE hf with ⟨hc18, hf⟩ | ⟨hc18, hf⟩
  {
  refine W.cond_true (bool_tr rfl hc18) ?_
  refine W.skip ?_
  refine hK16 _ _ ?_
  refine W.seqK fun K19 hK19 => ?_
  have Jk23 : ∀ (x21 : Int) (x22 : Int) (ρ : Env) (w : World), ρ 0 = bstr x1 → ρ 2 = .pointer (some ⟨g3, 0, none⟩) → ρ 3 = .int .i64 x12 → St ok (bz w0) w [pl (tSlice tStr) words_ (⟨0, 0, none⟩), pl tErr true (⟨3, 0, none⟩), pl tErr true (⟨4, 0, none⟩)] [blk g3 38 [.int .i64 x21, .int .i64 x22]] → adversary_parseRule.j2 x12 x21 x22 = some os15 → K19 ρ w := by
    intro x21 x22 ρ w h20_0 h20_2 h20_3 hs hf
    refine hK19 _ _ ?_
    unfold adversary_parseRule.j2 at hf
    refine W.region ?_
    refine WL.move (v := .int .i64 x12) h20_3 ?_
    obtain ⟨x24, ex24, hf⟩ := letE hf
    refine WL.bin (v := .int .i64 x24) rfl rfl (ib_as ex24 (ib_add _ _ _)) ?_
    refine WL.assign (v := .int .i64 x24) rfl ?_
    refine WL.nil ?_
    exact ⟨_, (Option.some.inj hf).symm, h20_0, h20_2, rfl, (hs.mask [true]).pick [0, 1, 2]⟩
  refine W.block ?_
  refine W.seqK fun K25 hK25 => ?_
  refine W.seqK fun K26 hK26 => ?_
  refine W.region ?_
  refine WL.move (v := .int .i64 x12) h11_3 ?_
  refine WL.bin (v := .bool (decide (6 < x12))) rfl rfl (ib_gtr _ _ _) ?_
  refine WL.nil ?_
  refine hK26 _ _ ?_
  rcases iteE hf with ⟨hc27, hf⟩ | ⟨hc27, hf⟩
  {
  refine W.cond_true (bool_tr rfl hc27) ?_
  refine W.seqK fun K28 hK28 => ?_
  refine W.seqK fun K29 hK29 => ?_
  refine W.region ?_
  refine WL.move (v := bstr x1) h11_0 ?_
  refine WL.loadP hs 0 rfl TI74 (.inr rfl) rfl (fun v30 hs => ?_)
  obtain ⟨a31, c32, rfl⟩ := hs.slice 0 rfl
  refine WL.move (v := .int .i64 x12) h11_3 ?_
  obtain ⟨x33, hxx33, hf⟩ := bindE hf
  refine WL.indexAddr hs 0 rfl UN74 TI9 rfl rfl hxx33 (fun ad34 hs => ?_)
  refine WL.loadP hs 0 rfl TI9 (.inr rfl) rfl (fun v35 hs => ?_)
  obtain rfl := hs.str 0 rfl
  refine WL.binS (v := .bool (x1 == x33)) rfl rfl (sb_eql _ _) ?_
  refine WL.nil ?_
  refine hK29 _ _ ?_
  rcases iteE hf with ⟨hc36, hf⟩ | ⟨hc36, hf⟩
  {
  refine W.cond_true (bool_tr rfl hc36) ?_
  refine W.seqK fun K37 hK37 => ?_
  refine W.region ?_
  refine WL.move (v := .int .i64 x12) h11_3 ?_
  refine WL.build (vs := [(0, .int .i64 x12)]) (cs := [.int .i64 x12, .int .i64 0]) ⟨⟨rfl, rfl⟩, trivial⟩ (bld PL38 rfl) ?_
  refine WL.storeAll (vs := [.int .i64 x12, .int .i64 0]) hs 0 rfl TI38 h11_2 rfl rfl rfl (ones_of rfl) rfl (fun w hs => ?_)
  refine WL.nil ?_
  refine hK37 _ _ ?_
  refine W.ret ?_
  have hr := Option.some.inj hf; subst hr
  have hr := hbbs15 _ rfl; subst hr
  have hf := hfs15
  have hr := Option.some.inj hf; subst hr
  have hs := hs.add (it := vl t_adversary_Rule (⟨x12, 0⟩ : adversary_Rule) (.agg [.int .i64 x12, .int .i64 0].toArray)) fun ok hA => V_agg (show t_adversary_Rule.R ok _ _ _ from ⟨[.int .i64 x12], [.int .i64 0], rfl, rfl, rfl⟩) rfl
  exact ⟨_, resOk_one rfl (res_all hs 0 rfl TI38 h11_2 rfl), [.int .i64 x12, .int .i64 0], rfl, (hs.mask []).pick [0]⟩ }
  {
  refine W.cond_false (bool_tr rfl hc36) ?_
  refine W.skip ?_
  refine hK28 _ _ ?_
  refine W.exit ?_
  exact Jk23 x13 x14 _ _ h11_0 h11_2 h11_3 ((hs.mask [true]).pick [3, 4, 5]) hf } }
  {
  refine W.cond_false (bool_tr rfl hc27) ?_
  refine W.skip ?_
  refine hK25 _ _ ?_
  refine W.seqK fun K38 hK38 => ?_
  refine W.region ?_
  refine WL.move (v := bstr x1) h11_0 ?_
  refine WL.loadP hs 0 rfl TI74 (.inr rfl) rfl (fun v39 hs => ?_)
  obtain ⟨a40, c41, rfl⟩ := hs.slice 0 rfl
  refine WL.move (v := .int .i64 x12) h11_3 ?_
  obtain ⟨x42, hxx42, hf⟩ := bindE hf
  refine WL.indexAddr hs 0 rfl UN74 TI9 rfl rfl hxx42 (fun ad43 hs => ?_)
  refine WL.loadP hs 0 rfl TI9 (.inr rfl) rfl (fun v44 hs => ?_)
  obtain rfl := hs.str 0 rfl
  obtain ⟨x45, hxx45, hf⟩ := bindE hf
  refine WL.binS (v := bstr x45) rfl rfl (sb_cat hxx45) ?_
  obtain ⟨⟨x46, x47⟩, hxx46, hf⟩ := bindE hf
  refine WL.call (vs := [bstr x1, bstr x45]) hs FN52 ⟨rfl, ⟨rfl, trivial⟩⟩ (fun ok hA => strings_CutPrefix.calls (x1 := x1) (x2 := x45) hxx46) ?_
  rintro _ w hs
  refine WL.move (v := .tuple #[bstr x46, .bool x47]) rfl ?_
  refine WL.extract (v := bstr x46) rfl rfl ?_
  refine WL.extract (v := .bool x47) rfl rfl ?_
  refine WL.assign (v := bstr x46) rfl ?_
  refine WL.assign (v := .bool x47) rfl ?_
  refine WL.nil ?_
  refine hK38 _ _ ?_
  refine W.seqK fun K48 hK48 => ?_
  refine W.region ?_
  refine WL.move (v := .bool x47) rfl ?_
  refine WL.nil ?_
  refine hK48 _ _ ?_
  rcases iteE hf with ⟨hc49, hf⟩ | ⟨hc49, hf⟩
  {
  refine W.cond_true (bool_tr rfl hc49) ?_
  refine W.seqK fun K50 hK50 => ?_
  refine W.region ?_
  refine WL.move (v := bstr x46) rfl ?_
  obtain ⟨⟨x51, x52⟩, hxx51, hf⟩ := bindE hf
  refine WL.call (vs := [bstr x46]) hs FN53 ⟨rfl, trivial⟩ (fun ok hA => strconv_Atoi.calls (x1 := x46) hxx51 (hA.get 4 rfl) (hA.get 5 rfl)) ?_
  rintro v53 w hs
  refine WL.move (v := .tuple #[.int .i64 x51, v53]) rfl ?_
  refine WL.extract (v := .int .i64 x51) rfl rfl ?_
  refine WL.extract (v := v53) rfl rfl ?_
  refine WL.assign (v := .int .i64 x51) rfl ?_
  refine WL.assign (v := v53) rfl ?_
  refine WL.nil ?_
  refine hK50 _ _ ?_
  refine W.seqK fun K54 hK54 => ?_
  refine W.seqK fun K55 hK55 => ?_
  refine W.region ?_
  refine WL.move (v := v53) rfl ?_
  refine WL.neqErr hs 0 rfl rfl NEI96 ?_
  refine WL.nil ?_
  refine hK55 _ _ ?_
  rcases iteE hf with ⟨hc56, hf⟩ | ⟨hc56, hf⟩
  {
  refine W.cond_true (bool_tr rfl hc56) ?_
  refine W.seqK fun K57 hK57 => ?_
  refine W.region ?_
  refine WL.build (vs := []) (cs := [.int .i64 0, .int .i64 0]) trivial (bld PL38 rfl) ?_
  refine WL.storeAll (vs := [.int .i64 0, .int .i64 0]) hs 0 rfl TI38 h11_2 rfl rfl rfl (ones_of rfl) rfl (fun w hs => ?_)
  refine WL.nil ?_
  refine hK57 _ _ ?_
  refine W.ret ?_
  have hr := Option.some.inj hf; subst hr
  have hr := hbbs15 _ rfl; subst hr
  have hf := hfs15
  have hr := Option.some.inj hf; subst hr
  have hs := hs.add (it := vl t_adversary_Rule (⟨0, 0⟩ : adversary_Rule) (.agg [.int .i64 0, .int .i64 0].toArray)) fun ok hA => V_agg (show t_adversary_Rule.R ok _ _ _ from ⟨[.int .i64 0], [.int .i64 0], rfl, rfl, rfl⟩) rfl
  exact ⟨_, resOk_one rfl (res_all hs 0 rfl TI38 h11_2 rfl), [.int .i64 0, .int .i64 0], rfl, (hs.mask []).pick [0]⟩ }
  {
  refine W.cond_false (bool_tr rfl hc56) ?_
  refine W.skip ?_
  refine hK54 _ _ ?_
  refine W.seqK fun K58 hK58 => ?_
  refine W.region ?_
  refine WL.move (v := .int .i64 x12) h11_3 ?_
  refine WL.move (v := .int .i64 x51) rfl ?_
  refine WL.build (vs := [(0, .int .i64 x12), (1, .int .i64 x51)]) (cs := [.int .i64 x12, .int .i64 x51]) ⟨⟨rfl, rfl⟩, ⟨⟨rfl, rfl⟩, trivial⟩⟩ (bld PL38 rfl) ?_
  refine WL.storeAll (vs := [.int .i64 x12, .int .i64 x51]) hs 0 rfl TI38 h11_2 rfl rfl rfl (ones_of rfl) rfl (fun w hs => ?_)
  refine WL.nil ?_
  refine hK58 _ _ ?_
  refine W.ret ?_
  have hr := Option.some.inj hf; subst hr
  have hr := hbbs15 _ rfl; subst hr
  have hf := hfs15
  have hr := Option.some.inj hf; subst hr
  have hs := hs.add (it := vl t_adversary_Rule (⟨x12, x51⟩ : adversary_Rule) (.agg [.int .i64 x12, .int .i64 x51].toArray)) fun ok hA => V_agg (show t_adversary_Rule.R ok _ _ _ from ⟨[.int .i64 x12], [.int .i64 x51], rfl, rfl, rfl⟩) rfl
  exact ⟨_, resOk_one rfl (res_all hs 0 rfl TI38 h11_2 rfl), [.int .i64 x12, .int .i64 x51], rfl, (hs.mask []).pick [0]⟩ } }
  {
  refine W.cond_false (bool_tr rfl hc49) ?_
  refine W.skip ?_
  exact Jk23 x13 x14 _ _ h11_0 h11_2 h11_3 ((hs.mask [true]).pick [3, 4, 5]) hf } } }
  {
  refine W.cond_false (bool_tr rfl hc18) ?_
  refine W.exit ?_
  have hr := Option.some.inj hf; subst hr
  have hr := hbbs15 _ rfl; subst hr
  have hf := hfs15
  exact Jk8 x13 x14 _ _ h11_2 ((hs.mask [true]).pick [0, 1, 2]) hf }
theorem adversary_Validate.calls {ok : Nat → Prop} {w0 : World} {x1 : List adversary_Rule} {a2 : Option Addr} {c3 : Nat} {r : Int} (hf : adversary_Validate x1 = some r) (i0 : (vl (tSlice t_adversary_Rule) x1 (.slice a2 x1.length c3)).holds ok w0) :
    Calls Tryz.prog 9 #[.slice a2 x1.length c3] w0 fun e w' => ∃ v, e = .returned v ∧ ∃ y : Unit, v = .int .i64 r ∧ St ok (bz w0) w' [] [] := by
  unfold adversary_Validate at hf
  refine calls_of_W (fn := Tryz.f9) (N := 48) Tryz.func9 rfl Tryz.ntmps9 rfl ?_
  have hs : St ok (bz w0) w0 [vl (tSlice t_adversary_Rule) x1 (.slice a2 x1.length c3)] [] := St.init (All.cons i0 All.nil)
  clear i0
  refine W.seqK fun K4 hK4 => ?_
  refine W.region ?_
  refine WL.assign (v := .int .i64 0) rfl ?_
  refine WL.nil ?_
  refine hK4 _ _ ?_
  refine W.seqK fun K5 hK5 => ?_
  refine W.seqK fun K6 hK6 => ?_
  refine W.region ?_
  refine WL.move (v := .slice a2 x1.length c3) rfl ?_
  refine WL.len (v := .slice a2 x1.length c3) rfl (len_slice UN22) ?_
  refine WL.bin (v := .bool (decide (16 < (x1.length : Int)))) rfl rfl (ib_gtr _ _ _) ?_
  refine WL.nil ?_
  refine hK6 _ _ ?_
  rcases iteE hf with ⟨hc7, hf⟩ | ⟨hc7, hf⟩
  {
  refine W.cond_true (bool_tr rfl hc7) ?_
  refine W.seqK fun K8 hK8 => ?_
  refine W.region ?_
  refine WL.assign (v := .int .i64 3) rfl ?_
  refine WL.nil ?_
  refine hK8 _ _ ?_
  refine W.ret ?_
  have hr := Option.some.inj hf; subst hr
  exact ⟨_, resOk_one rfl rfl, (), rfl, (hs.mask []).pick []⟩ }
  {
  refine W.cond_false (bool_tr rfl hc7) ?_
  refine W.skip ?_
  refine hK5 _ _ ?_
  refine W.seqK fun K9 hK9 => ?_
  have Jk11 : ∀  (ρ : Env) (w : World), St ok (bz w0) w [] [] → adversary_Validate.j1 = some r → K9 ρ w := by
    intro  ρ w  hs hf
    refine hK9 _ _ ?_
    unfold adversary_Validate.j1 at hf
    refine W.seqK fun K12 hK12 => ?_
    refine W.region ?_
    refine WL.assign (v := .int .i64 0) rfl ?_
    refine WL.nil ?_
    refine hK12 _ _ ?_
    refine W.ret ?_
    have hr := Option.some.inj hf; subst hr
    exact ⟨_, resOk_one rfl rfl, (), rfl, (hs.mask []).pick []⟩
  refine W.seqK fun K13 hK13 => ?_
  refine W.region ?_
  refine WL.move (v := .slice a2 x1.length c3) rfl ?_
  refine WL.len (v := .slice a2 x1.length c3) rfl (len_slice UN22) ?_
  refine WL.move (v := .int .i64 0) rfl ?_
  refine WL.nil ?_
  refine hK13 _ _ ?_
  refine W.block ?_
  obtain ⟨bs16, hbs16, hfs16⟩ := bindE hf
  refine W.loop hbs16 (fun s ρ w => match s with | x15 => ρ 8 = .slice a2 x1.length c3 ∧ ρ 9 = .int .i64 (x1.length : Int) ∧ ρ 10 = .int .i64 x15 ∧ St ok (bz w0) w [vl (tSlice t_adversary_Rule) x1 (.slice a2 x1.length c3)] []) ⟨rfl, rfl, rfl, (hs.mask []).pick [0]⟩ ?_
  intro x15 ρ w os16 hI hf hbbs16
  obtain ⟨h14_8, h14_9, h14_10, hs⟩ := hI
  unfold adversary_Validate.l1 at hf
  refine W.seqK fun K17 hK17 => ?_
  refine W.region ?_
  refine WL.bin (v := .bool (decide (x15 < (x1.length : Int)))) h14_10 h14_9 (ib_lss _ _ _) ?_
  refine WL.nil ?_
  refine hK17 _ _ ?_
  refine W.seqK fun K18 hK18 => ?_
  rcases iteE hf with ⟨hc19, hf⟩ | ⟨hc19, hf⟩
  {
  refine W.cond_true (bool_tr rfl hc19) ?_
  refine W.skip ?_
  refine hK18 _ _ ?_
  refine W.seqK fun K20 hK20 => ?_
  refine W.block ?_
  refine W.seqK fun K21 hK21 => ?_
  refine W.region ?_
  obtain ⟨x22, hxx22, hf⟩ := bindE hf
  refine WL.indexAddr hs 0 rfl UN22 TI38 h14_8 h14_10 hxx22 (fun ad23 hs => ?_)
  refine WL.loadP hs 0 rfl TI38 (.inl rfl) rfl (fun v24 hs => ?_)
  obtain ⟨cs25, hl26, rfl⟩ := hs.aggv (n := 2) 0 rfl rfl rfl
  refine WL.alloc hs ZV38 (fun g27 w hs => ?_)
  refine WL.storeAll (vs := cs25) hs 0 rfl TI38 rfl rfl rfl hl26 (hs.ones 0 rfl rfl) rfl (fun w hs => ?_)
  refine WL.nil ?_
  refine hK21 _ _ ?_
  refine W.block ?_
  refine W.seqK fun K28 hK28 => ?_
  have Jk31 : ∀ (x30 : Bool) (ρ : Env) (w : World), ρ 4 = .pointer (some ⟨g27, 0, none⟩) → ρ 8 = .slice a2 x1.length c3 → ρ 9 = .int .i64 (x1.length : Int) → ρ 10 = .int .i64 x15 → ρ 14 = .bool x30 → St ok (bz w0) w [vl (tSlice t_adversary_Rule) x1 (.slice a2 x1.length c3), vl t_adversary_Rule x22 (.agg cs25.toArray)] [blk g27 38 cs25] → adversary_Validate.j3 x15 x22 x30 = some os16 → K28 ρ w := by
    intro x30 ρ w h29_4 h29_8 h29_9 h29_10 h29_14 hs hf
    refine hK28 _ _ ?_
    unfold adversary_Validate.j3 at hf
    rcases iteE hf with ⟨hc32, hf⟩ | ⟨hc32, hf⟩
    {
    refine W.cond_true (bool_tr h29_14 hc32) ?_
    refine W.seqK fun K33 hK33 => ?_
    refine W.region ?_
    refine WL.assign (v := .int .i64 10) rfl ?_
    refine WL.nil ?_
    refine hK33 _ _ ?_
    refine W.ret ?_
    have hr := Option.some.inj hf; subst hr
    have hr := hbbs16 _ rfl; subst hr
    have hf := hfs16
    have hr := Option.some.inj hf; subst hr
    exact ⟨_, resOk_one rfl rfl, (), rfl, (hs.mask []).pick []⟩ }
    {
    refine W.cond_false (bool_tr h29_14 hc32) ?_
    refine W.seqK fun K34 hK34 => ?_
    have Jk37 : ∀ (x36 : Bool) (ρ : Env) (w : World), ρ 8 = .slice a2 x1.length c3 → ρ 9 = .int .i64 (x1.length : Int) → ρ 10 = .int .i64 x15 → ρ 23 = .bool x36 → St ok (bz w0) w [vl (tSlice t_adversary_Rule) x1 (.slice a2 x1.length c3)] [] → adversary_Validate.j2 x15 x36 = some os16 → K34 ρ w := by
      intro x36 ρ w h35_8 h35_9 h35_10 h35_23 hs hf
      refine hK34 _ _ ?_
      unfold adversary_Validate.j2 at hf
      rcases iteE hf with ⟨hc38, hf⟩ | ⟨hc38, hf⟩
      {
      refine W.cond_true (bool_tr h35_23 hc38) ?_
      refine W.seqK fun K39 hK39 => ?_
      refine W.region ?_
      refine WL.assign (v := .int .i64 9) rfl ?_
      refine WL.nil ?_
      refine hK39 _ _ ?_
      refine W.ret ?_
      have hr := Option.some.inj hf; subst hr
      have hr := hbbs16 _ rfl; subst hr
      have hf := hfs16
      have hr := Option.some.inj hf; subst hr
      exact ⟨_, resOk_one rfl rfl, (), rfl, (hs.mask []).pick []⟩ }
      {
      refine W.cond_false (bool_tr h35_23 hc38) ?_
      refine W.skip ?_
      refine hK20 _ _ ?_
      refine W.region ?_
      obtain ⟨x40, ex40, hf⟩ := letE hf
      refine WL.bin (v := .int .i64 x40) h35_10 rfl (ib_as ex40 (ib_add _ _ _)) ?_
      refine WL.move (v := .int .i64 x40) rfl ?_
      refine WL.nil ?_
      exact ⟨_, (Option.some.inj hf).symm, h35_8, h35_9, rfl, (hs.mask []).pick [0]⟩ }
    refine W.region ?_
    refine WL.fieldAddr (m := 0) h29_4 FA38_0 rfl ?_
    refine WL.loadF (z := x22.Kind) F_adversary_Rule_Kind hs 0 rfl 1 rfl rfl TI3 (.inr rfl) rfl rfl (fun v41 hs => ?_)
    obtain rfl := hs.int 0 rfl
    refine WL.bin (v := .bool (decide (x22.Kind ≤ 6))) rfl rfl (ib_leq _ _ _) ?_
    refine WL.move (v := .bool (decide (x22.Kind ≤ 6))) rfl ?_
    rcases iteE hf with ⟨hc42, hf⟩ | ⟨hc42, hf⟩
    {
    refine WL.fieldAddr (m := 1) h29_4 FA38_1 rfl ?_ (hg := (wanted_of rfl rfl (bool_tr rfl hc42)).trans rfl)
    refine WL.loadF (z := x22.Arg) F_adversary_Rule_Arg hs 0 rfl 2 rfl rfl TI3 (.inr rfl) rfl rfl (fun v43 hs => ?_) (hg := (wanted_of rfl rfl (bool_tr rfl hc42)).trans rfl)
    obtain rfl := hs.int 0 rfl
    refine WL.bin (v := .bool (decide (x22.Arg < 1))) rfl rfl (ib_lss _ _ _) ?_ (hg := (wanted_of rfl rfl (bool_tr rfl hc42)).trans rfl)
    refine WL.move (v := .bool (decide (x22.Arg < 1))) rfl ?_ (hg := (wanted_of rfl rfl (bool_tr rfl hc42)).trans rfl)
    rcases iteE hf with ⟨hc44, hf⟩ | ⟨hc44, hf⟩
    {
    refine WL.pass ((wanted_of rfl rfl (bool_tr rfl hc44)).trans rfl) rfl ?_
    refine WL.pass ((wanted_of rfl rfl (bool_tr rfl hc44)).trans rfl) rfl ?_
    refine WL.pass ((wanted_of rfl rfl (bool_tr rfl hc44)).trans rfl) rfl ?_
    refine WL.pickT (v := .bool true) (bool_tr rfl hc44) rfl ?_ (hg := (wanted_of rfl rfl (bool_tr rfl hc42)).trans rfl)
    refine WL.pickT (v := .bool true) (bool_tr rfl hc42) rfl ?_
    refine WL.move (v := .bool true) rfl ?_
    refine WL.pass ((wanted_of rfl rfl rfl).trans rfl) rfl ?_
    refine WL.pass ((wanted_of rfl rfl rfl).trans rfl) rfl ?_
    refine WL.pass ((wanted_of rfl rfl rfl).trans rfl) rfl ?_
    refine WL.pass ((wanted_of rfl rfl rfl).trans rfl) rfl ?_
    refine WL.pass (wanted_undef rfl rfl rfl) rfl ?_
    refine WL.pass (wanted_undef rfl rfl rfl) rfl ?_
    refine WL.pass (wanted_undef rfl rfl rfl) rfl ?_
    refine WL.pass ((wanted_of rfl rfl rfl).trans rfl) rfl ?_
    refine WL.pickT (v := .bool true) rfl rfl ?_
    refine WL.assign (v := .bool true) rfl ?_
    refine WL.nil ?_
    exact Jk37 true _ _ h29_8 h29_9 h29_10 rfl ((hs.mask []).pick [2]) hf }
    {
    refine WL.fieldAddr (m := 1) h29_4 FA38_1 rfl ?_ (hg := (wanted_of rfl rfl (bool_tr rfl hc44)).trans rfl)
    refine WL.loadF (z := x22.Arg) F_adversary_Rule_Arg hs 0 rfl 3 rfl rfl TI3 (.inr rfl) rfl rfl (fun v45 hs => ?_) (hg := (wanted_of rfl rfl (bool_tr rfl hc44)).trans rfl)
    obtain rfl := hs.int 0 rfl
    refine WL.bin (v := .bool (decide (1000 < x22.Arg))) rfl rfl (ib_gtr _ _ _) ?_ (hg := (wanted_of rfl rfl (bool_tr rfl hc44)).trans rfl)
    refine WL.pickF (v := .bool (decide (1000 < x22.Arg))) (bool_tr rfl hc44) rfl ?_ (hg := (wanted_of rfl rfl (bool_tr rfl hc42)).trans rfl)
    refine WL.pickT (v := .bool (decide (1000 < x22.Arg))) (bool_tr rfl hc42) rfl ?_
    refine WL.move (v := .bool (decide (1000 < x22.Arg))) rfl ?_
    rcases iteE hf with ⟨hc46, hf⟩ | ⟨hc46, hf⟩
    {
    refine WL.pass ((wanted_of rfl rfl (bool_tr rfl hc46)).trans rfl) rfl ?_
    refine WL.pass ((wanted_of rfl rfl (bool_tr rfl hc46)).trans rfl) rfl ?_
    refine WL.pass ((wanted_of rfl rfl (bool_tr rfl hc46)).trans rfl) rfl ?_
    refine WL.pass ((wanted_of rfl rfl (bool_tr rfl hc46)).trans rfl) rfl ?_
    refine WL.pass (wanted_undef rfl rfl rfl) rfl ?_
    refine WL.pass (wanted_undef rfl rfl rfl) rfl ?_
    refine WL.pass (wanted_undef rfl rfl rfl) rfl ?_
    refine WL.pass ((wanted_of rfl rfl (bool_tr rfl hc46)).trans rfl) rfl ?_
    refine WL.pickT (v := .bool true) (bool_tr rfl hc46) rfl ?_
    refine WL.assign (v := .bool true) rfl ?_
    refine WL.nil ?_
    exact Jk37 true _ _ h29_8 h29_9 h29_10 rfl ((hs.mask []).pick [3]) hf }
    {
    refine WL.fieldAddr (m := 0) h29_4 FA38_0 rfl ?_ (hg := (wanted_of rfl rfl (bool_tr rfl hc46)).trans rfl)
    refine WL.loadF (z := x22.Kind) F_adversary_Rule_Kind hs 0 rfl 4 rfl rfl TI3 (.inr rfl) rfl rfl (fun v47 hs => ?_) (hg := (wanted_of rfl rfl (bool_tr rfl hc46)).trans rfl)
    obtain rfl := hs.int 0 rfl
    refine WL.bin (v := .bool (decide (6 < x22.Kind))) rfl rfl (ib_gtr _ _ _) ?_ (hg := (wanted_of rfl rfl (bool_tr rfl hc46)).trans rfl)
    refine WL.move (v := .bool (decide (6 < x22.Kind))) rfl ?_ (hg := (wanted_of rfl rfl (bool_tr rfl hc46)).trans rfl)
    rcases iteE hf with ⟨hc48, hf⟩ | ⟨hc48, hf⟩
    {
    refine WL.fieldAddr (m := 1) h29_4 FA38_1 rfl ?_ (hg := (wanted_of rfl rfl (bool_tr rfl hc48)).trans rfl)
    refine WL.loadF (z := x22.Arg) F_adversary_Rule_Arg hs 0 rfl 5 rfl rfl TI3 (.inr rfl) rfl rfl (fun v49 hs => ?_) (hg := (wanted_of rfl rfl (bool_tr rfl hc48)).trans rfl)
    obtain rfl := hs.int 0 rfl
    refine WL.bin (v := .bool (x22.Arg != 0)) rfl rfl (ib_neq _ _ _) ?_ (hg := (wanted_of rfl rfl (bool_tr rfl hc48)).trans rfl)
    refine WL.pickT (v := .bool (x22.Arg != 0)) (bool_tr rfl hc48) rfl ?_ (hg := (wanted_of rfl rfl (bool_tr rfl hc46)).trans rfl)
    refine WL.pickF (v := .bool (x22.Arg != 0)) (bool_tr rfl hc46) rfl ?_
    refine WL.assign (v := .bool (x22.Arg != 0)) rfl ?_
    refine WL.nil ?_
    exact Jk37 (x22.Arg != 0) _ _ h29_8 h29_9 h29_10 rfl ((hs.mask []).pick [5]) hf }
    {
    refine WL.pass ((wanted_of rfl rfl (bool_tr rfl hc48)).trans rfl) rfl ?_
    refine WL.pass ((wanted_of rfl rfl (bool_tr rfl hc48)).trans rfl) rfl ?_
    refine WL.pass ((wanted_of rfl rfl (bool_tr rfl hc48)).trans rfl) rfl ?_
    refine WL.pickF (v := .bool false) (bool_tr rfl hc48) rfl ?_ (hg := (wanted_of rfl rfl (bool_tr rfl hc46)).trans rfl)
    refine WL.pickF (v := .bool false) (bool_tr rfl hc46) rfl ?_
    refine WL.assign (v := .bool false) rfl ?_
    refine WL.nil ?_
    exact Jk37 false _ _ h29_8 h29_9 h29_10 rfl ((hs.mask []).pick [4]) hf } } } }
    {
    refine WL.pass ((wanted_of rfl rfl (bool_tr rfl hc42)).trans rfl) rfl ?_
    refine WL.pass ((wanted_of rfl rfl (bool_tr rfl hc42)).trans rfl) rfl ?_
    refine WL.pass ((wanted_of rfl rfl (bool_tr rfl hc42)).trans rfl) rfl ?_
    refine WL.pass ((wanted_of rfl rfl (bool_tr rfl hc42)).trans rfl) rfl ?_
    refine WL.pass (wanted_undef rfl rfl rfl) rfl ?_
    refine WL.pass (wanted_undef rfl rfl rfl) rfl ?_
    refine WL.pass (wanted_undef rfl rfl rfl) rfl ?_
    refine WL.pass ((wanted_of rfl rfl (bool_tr rfl hc42)).trans rfl) rfl ?_
    refine WL.pickF (v := .bool false) (bool_tr rfl hc42) rfl ?_
    refine WL.move (v := .bool false) rfl ?_
    refine WL.fieldAddr (m := 0) h29_4 FA38_0 rfl ?_ (hg := (wanted_of rfl rfl rfl).trans rfl)
    refine WL.loadF (z := x22.Kind) F_adversary_Rule_Kind hs 0 rfl 2 rfl rfl TI3 (.inr rfl) rfl rfl (fun v50 hs => ?_) (hg := (wanted_of rfl rfl rfl).trans rfl)
    obtain rfl := hs.int 0 rfl
    refine WL.bin (v := .bool (decide (6 < x22.Kind))) rfl rfl (ib_gtr _ _ _) ?_ (hg := (wanted_of rfl rfl rfl).trans rfl)
    refine WL.move (v := .bool (decide (6 < x22.Kind))) rfl ?_ (hg := (wanted_of rfl rfl rfl).trans rfl)
    rcases iteE hf with ⟨hc51, hf⟩ | ⟨hc51, hf⟩
    {
    refine WL.fieldAddr (m := 1) h29_4 FA38_1 rfl ?_ (hg := (wanted_of rfl rfl (bool_tr rfl hc51)).trans rfl)
    refine WL.loadF (z := x22.Arg) F_adversary_Rule_Arg hs 0 rfl 3 rfl rfl TI3 (.inr rfl) rfl rfl (fun v52 hs => ?_) (hg := (wanted_of rfl rfl (bool_tr rfl hc51)).trans rfl)
    obtain rfl := hs.int 0 rfl
    refine WL.bin (v := .bool (x22.Arg != 0)) rfl rfl (ib_neq _ _ _) ?_ (hg := (wanted_of rfl rfl (bool_tr rfl hc51)).trans rfl)
    refine WL.pickT (v := .bool (x22.Arg != 0)) (bool_tr rfl hc51) rfl ?_ (hg := (wanted_of rfl rfl rfl).trans rfl)
    refine WL.pickF (v := .bool (x22.Arg != 0)) rfl rfl ?_
    refine WL.assign (v := .bool (x22.Arg != 0)) rfl ?_
    refine WL.nil ?_
    exact Jk37 (x22.Arg != 0) _ _ h29_8 h29_9 h29_10 rfl ((hs.mask []).pick [3]) hf }
    {
    refine WL.pass ((wanted_of rfl rfl (bool_tr rfl hc51)).trans rfl) rfl ?_
    refine WL.pass ((wanted_of rfl rfl (bool_tr rfl hc51)).trans rfl) rfl ?_
    refine WL.pass ((wanted_of rfl rfl (bool_tr rfl hc51)).trans rfl) rfl ?_
    refine WL.pickF (v := .bool false) (bool_tr rfl hc51) rfl ?_ (hg := (wanted_of rfl rfl rfl).trans rfl)
    refine WL.pickF (v := .bool false) rfl rfl ?_
    refine WL.assign (v := .bool false) rfl ?_
    refine WL.nil ?_
    exact Jk37 false _ _ h29_8 h29_9 h29_10 rfl ((hs.mask []).pick [2]) hf } } }
  refine W.region ?_
  refine WL.fieldAddr (m := 0) rfl FA38_0 rfl ?_
  refine WL.loadF (z := x22.Kind) F_adversary_Rule_Kind hs 0 rfl 0 rfl rfl TI3 (.inr rfl) rfl rfl (fun v53 hs => ?_)
  obtain rfl := hs.int 0 rfl
  refine WL.bin (v := .bool (decide (x22.Kind < 1))) rfl rfl (ib_lss _ _ _) ?_
  refine WL.move (v := .bool (decide (x22.Kind < 1))) rfl ?_
  rcases iteE hf with ⟨hc54, hf⟩ | ⟨hc54, hf⟩
  {
  refine WL.pass ((wanted_of rfl rfl (bool_tr rfl hc54)).trans rfl) rfl ?_
  refine WL.pass ((wanted_of rfl rfl (bool_tr rfl hc54)).trans rfl) rfl ?_
  refine WL.pass ((wanted_of rfl rfl (bool_tr rfl hc54)).trans rfl) rfl ?_
  refine WL.pickT (v := .bool true) (bool_tr rfl hc54) rfl ?_
  refine WL.assign (v := .bool true) rfl ?_
  refine WL.nil ?_
  exact Jk31 true _ _ rfl h14_8 h14_9 h14_10 rfl ((hs.mask [true]).pick [3, 1]) hf }
  {
  refine WL.fieldAddr (m := 0) rfl FA38_0 rfl ?_ (hg := (wanted_of rfl rfl (bool_tr rfl hc54)).trans rfl)
  refine WL.loadF (z := x22.Kind) F_adversary_Rule_Kind hs 0 rfl 1 rfl rfl TI3 (.inr rfl) rfl rfl (fun v55 hs => ?_) (hg := (wanted_of rfl rfl (bool_tr rfl hc54)).trans rfl)
  obtain rfl := hs.int 0 rfl
  refine WL.bin (v := .bool (decide (9 < x22.Kind))) rfl rfl (ib_gtr _ _ _) ?_ (hg := (wanted_of rfl rfl (bool_tr rfl hc54)).trans rfl)
  refine WL.pickF (v := .bool (decide (9 < x22.Kind))) (bool_tr rfl hc54) rfl ?_
  refine WL.assign (v := .bool (decide (9 < x22.Kind))) rfl ?_
  refine WL.nil ?_
  exact Jk31 (decide (9 < x22.Kind)) _ _ rfl h14_8 h14_9 h14_10 rfl ((hs.mask [true]).pick [4, 2]) hf } }
  {
  refine W.cond_false (bool_tr rfl hc19) ?_
  refine W.exit ?_
  have hr := Option.some.inj hf; subst hr
  have hr := hbbs16 _ rfl; subst hr
  have hf := hfs16
  exact Jk11  _ _  ((hs.mask []).pick []) hf } }
end Go.Proofs.YthcohhpmpdijoaaGreatDoor
