/- What the row leans on, as few texts. -/
import Derived.Test.YtpfgdjfiimknlaaQII1
import Derived.Sort.Walk0
import Derived.Shelf.Spec.SearchS
import Derived.Shelf.Spec.SlicesInsertGrow
import Derived.Shelf.SlSortCmp.WholeK
import Derived.Test.YtpfgdjfiimknlaaProg
import Derived.Test.YtpfgdjfiimknlaaQII0
import Derived.Sort.Grow
import Derived.Deep.Draws
import Derived.Shelf.SlSortCmp.NoneTotal
set_option linter.unusedVariables false
set_option linter.unusedSimpArgs false
namespace Go.Proofs.YtpfgdjfiimknlaaL
open Go Go.RowKit
theorem bl_irrefl (a : List UInt8) : Op.bytesLess a a = false := by rw [Go.Proofs.bytesLess_eq]; simp [List.lt_irrefl]
theorem bl_trans {a b c : List UInt8} (h : Op.bytesLess a b = true) (k : Op.bytesLess b c = true) : Op.bytesLess a c = true := by
  rw [Go.Proofs.bytesLess_eq, decide_eq_true_eq] at *
  exact List.lt_trans h k
theorem bl_tri {a b : List UInt8} (h : Op.bytesLess a b = false) (k : Op.bytesLess b a = false) : a = b := by
  rw [Go.Proofs.bytesLess_eq, decide_eq_false_iff_not] at *
  exact List.le_antisymm k h
theorem bl_asymm {a b : List UInt8} (h : Op.bytesLess a b = true) : Op.bytesLess b a = false := by
  cases k : Op.bytesLess b a with
  | false => rfl
  | true => have := bl_trans h k; rw [bl_irrefl] at this; cases this
abbrev Asc (l : List (List UInt8)) : Prop := l.Pairwise fun a b => Op.bytesLess a b = true
def posS : List (List UInt8) → List UInt8 → Nat
  | [], _ => 0
  | a :: l, s => if Op.bytesLess a s then posS l s + 1 else 0
theorem posS_le : ∀ (l : List (List UInt8)) (s : List UInt8), posS l s ≤ l.length
  | [], _ => Nat.le_refl _
  | a :: l, s => by
    unfold posS
    have := posS_le l s
    split
    · simp; exact this
    · simp
theorem posS_lt : ∀ (l : List (List UInt8)) (s : List UInt8) (t : Nat), t < posS l s → Op.bytesLess (l.getD t s) s = true
  | [], s, t, h => by simp [posS] at h
  | a :: l, s, t, h => by
    unfold posS at h
    split at h
    · rename_i ha
      cases t with
      | zero => exact ha
      | succ t => simpa using posS_lt l s t (by omega)
    · omega
theorem posS_ge : ∀ (l : List (List UInt8)) (s : List UInt8), Asc l → ∀ t, posS l s ≤ t → Op.bytesLess (l.getD t s) s = false
  | [], s, _, t, _ => by simp [bl_irrefl]
  | a :: l, s, h, t, ht => by
    have h1 := (List.pairwise_cons.1 h).1
    have h2 := (List.pairwise_cons.1 h).2
    unfold posS at ht
    split at ht
    · cases t with
      | zero => omega
      | succ t => simpa using posS_ge l s h2 t (by omega)
    · rename_i ha
      have ha : Op.bytesLess a s = false := by simpa using ha
      cases t with
      | zero => simpa using ha
      | succ t =>
        rw [List.getD_cons_succ]
        rcases Nat.lt_or_ge t l.length with hl | hl
        · have e : l.getD t s = l[t] := by simp [List.getD_eq_getElem?_getD, hl]
          rw [e]
          cases k : Op.bytesLess l[t] s with
          | false => rfl
          | true =>
            have := bl_trans (h1 _ (List.getElem_mem hl)) k
            rw [this] at ha; cases ha
        · rw [List.getD_eq_getElem?_getD, List.getElem?_eq_none hl]
          exact bl_irrefl s
theorem insS_pos : ∀ (l : List (List UInt8)) (s : List UInt8), insS l s = if posS l s < l.length ∧ l.getD (posS l s) s = s then l else l.take (posS l s) ++ s :: l.drop (posS l s)
  | [], s => by simp [insS, posS]
  | a :: l, s => by
    unfold insS posS
    cases ha : Op.bytesLess a s with
    | true =>
      rw [if_pos rfl, if_pos rfl, insS_pos l s]
      simp only [List.length_cons, Nat.add_lt_add_iff_right, List.getD_cons_succ, List.take_succ_cons, List.drop_succ_cons]
      split
      · rfl
      · rfl
    | false =>
      simp only [Bool.false_eq_true, if_false]
      cases he : a == s with
      | true =>
        have : a = s := by simpa using he
        simp [this]
      | false =>
        have : a ≠ s := by simpa using he
        simp [this]
section
variable {P : Program} {w : World} {w0 : Base} {ok0 : Nat → Prop} {Γ : List It} {Λ : List LObj} {ren : Go.Shelf.Ren}
open Go.Proofs Go.Shelf
theorem bsearch_own (L : Lays2.n26 P ren) {xs : List (List UInt8)} {s : List UInt8} {v : Value} (hs : St ok0 w0 w Γ Λ) (i : Nat) (hi : Λ[i]? = some (own tStr 9 v xs)) (ha : Asc xs) (hb : xs.length < 4611686018427387904) :
    Calls P (ren.f 26) #[v, bstr s] w fun e w' => e = .returned (.tuple #[.int .i64 (posS xs s : Nat), .bool (decide (posS xs s < xs.length ∧ xs.getD (posS xs s) s = s))]) ∧ ∃ q, w' = w.drewN q := by
  have hT := hs.ownT i hi
  obtain ⟨a, c, e, hc, hr⟩ := tSlice_V.1 hT
  have e : v = .slice a xs.length c := e
  subst e
  have empty : xs = [] → Calls P (ren.f 26) #[.slice a xs.length c, bstr s] w fun e w' => e = .returned (.tuple #[.int .i64 (posS xs s : Nat), .bool (decide (posS xs s < xs.length ∧ xs.getD (posS xs s) s = s))]) ∧ ∃ q, w' = w.drewN q := by
    intro hx
    subst hx
    refine (Any2.slices_BinarySearch_string_empty L a c ⟨s.toArray⟩ w).mono ?_
    rintro e w' ⟨rfl, rfl⟩
    exact ⟨by simp [posS], 0, rfl⟩
  rcases hr with hx | ⟨g, off, rfl, _, hlt, hcell⟩
  · exact empty hx
  · have key := Any2.slices_BinarySearch_string L g off xs.length c (fun j => ⟨(xs.getD j s).toArray⟩) ⟨s.toArray⟩ w hb (fun j hj => by
      have hx : xs[j]? = some xs[j] := List.getElem?_eq_getElem hj
      obtain ⟨cs, hR, hcs⟩ := hcell j _ hx
      have hR : cs = [bstr xs[j]] := hR
      subst hR
      have := hcs 0 _ rfl
      have e1 : off + j * tStr.sz + 0 = off + j := by show off + j * 1 + 0 = _; omega
      rw [e1] at this
      rw [this]
      simp [bstr, List.getD_eq_getElem?_getD, hj])
    refine key.mono ?_
    rintro e w' ⟨rfl, q, rfl⟩
    have e1 : Lib.bsGo (fun t => Op.bytesLess (ByteArray.toList ⟨(xs.getD t s).toArray⟩) (ByteArray.toList ⟨s.toArray⟩)) xs.length 0 xs.length = posS xs s := by
      refine Lib.bsGo_spec _ (posS xs s) (fun t ht => ?_) (fun t ht => ?_) xs.length 0 xs.length (by omega) (Nat.zero_le _) (posS_le xs s)
      · rw [bl, bl]; exact posS_lt xs s t ht
      · rw [bl, bl]; exact posS_ge xs s ha t ht
    refine ⟨?_, q, rfl⟩
    simp only [e1]
    congr 5
    have : (({ data := (xs.getD (posS xs s) s).toArray } : ByteArray) = ⟨s.toArray⟩) ↔ xs.getD (posS xs s) s = s := by
      constructor
      · intro h
        have := congrArg ByteArray.toList h
        rw [bl, bl] at this
        exact this
      · intro h; rw [h]
    simp only [this]
theorem wset_eq (g : Nat) : ∀ (vs : List Value) (j : Nat) (w : World), World.setCells w g j vs = setCells w g j vs
  | [], _, _ => rfl
  | v :: vs, j, w => by rw [World.setCells, setCells, wset_eq g vs]
theorem drew_heap (w : World) : w.drew.heap = w.heap := rfl
theorem Off.drew (bs : List Nat) (w : World) : Off bs w w.drew := ⟨rfl, rfl, rfl, Nat.le_refl _, fun _ _ _ => rfl⟩
theorem own_str {v : Value} {xs : List (List UInt8)} {ok : Nat → Prop} {bs : List Nat} (h : (own tStr 9 v xs).H ok bs w) :
    (∃ a, v = .slice a 0 0 ∧ xs = [] ∧ bs = []) ∨ ∃ g c cur, v = .slice (some ⟨g, 0, none⟩) xs.length c ∧ 0 < c ∧ bs = [g] ∧ w.heap[g]? = some (.cells (xs.map bstr ++ cur).toArray 9 (0, 0)) ∧ xs.length + cur.length = c ∧ c ≤ maxLen := by
  rcases h with ⟨_, h1, h2, a, h3⟩ | ⟨h0, cs, h1, h2, h3⟩
  · exact .inl ⟨a, h3, h2, h1⟩
  · obtain ⟨_, h2⟩ := h2
    rcases h2 with ⟨rfl, _⟩ | ⟨g, c, cur, rfl, _, hg, q1, q2, q3, q4⟩
    · simp [slCap] at h0
    · have ecs : cs = xs.map bstr := by
        have hl := h3.1
        have hl : cs.length = xs.length := by rw [hl]; exact Nat.mul_one _
        refine List.ext_getElem? fun j => ?_
        rcases Nat.lt_or_ge j xs.length with hj | hj
        · have := h3.2 j _ (List.getElem?_eq_getElem hj)
          have this : ((cs.drop (j * 1)).take 1) = [bstr xs[j]] := this
          rw [Nat.mul_one, List.drop_eq_getElem_cons (by omega), List.take_succ_cons, List.take_zero] at this
          rw [List.getElem?_eq_getElem (by omega), List.getElem?_map, List.getElem?_eq_getElem hj]
          simpa using this
        · rw [List.getElem?_eq_none (by omega), List.getElem?_eq_none (by simpa using hj)]
      subst ecs
      have q4 : cur.toList.take (xs.length * 1) = xs.map bstr := q4
      have q3 : cur.size = c * 1 := q3
      rw [Nat.mul_one] at q3 q4
      refine .inr ⟨g, c, cur.toList.drop xs.length, rfl, h0, by rw [h1]; rfl, ?_, ?_, q2⟩
      · rw [← q4, List.take_append_drop]
        simpa using hg
      · rw [List.length_drop, Array.length_toList (xs := cur)]
        omega
theorem own_of {g c : Nat} {xs : List (List UInt8)} {cur : List Value} (ok : Nat → Prop) (hc : 0 < c) (hg : w.heap[g]? = some (.cells (xs.map bstr ++ cur).toArray 9 (0, 0))) (hl : xs.length + cur.length = c) (hm : c ≤ maxLen) :
    (own tStr 9 (.slice (some ⟨g, 0, none⟩) xs.length c) xs).H ok [g] w := by
  refine .inr ⟨hc, xs.map bstr, rfl, ⟨by simp [tStr], .inr ⟨g, c, _, rfl, Nat.zero_le _, hg, by omega, hm, ?_, ?_⟩⟩, cells_str xs⟩
  · show _ = c * 1
    simp; omega
  · show List.take (xs.length * 1) _ = _
    simp
theorem insert_own (L : Lays2.n22 P ren) (h9 : ren.t 9 = 9) {xs : List (List UInt8)} {s : List UInt8} {v : Value} {gl k : Nat} (hs : St ok0 w0 w Γ (blk gl 9 [bstr s] :: Λ)) (i : Nat) (hi : Λ[i]? = some (own tStr 9 v xs)) (hk : k ≤ xs.length) (hb : (xs.length + 1) * 16 ≤ 140737488355328) :
    Calls P (ren.f 22) #[v, .int .i64 (k : Nat), .slice (some ⟨gl, 0, none⟩) 1 1] w fun e w' => ∃ v', e = .returned v' ∧ St ok0 w0 w' Γ (Λ.set i (own tStr 9 v' (xs.take k ++ s :: xs.drop k))) := by
  have hgl := hs.blk_at 0 rfl
  have hs2 := hs.freezeB (A := tStr) (x := s) 0 rfl fun _ _ => rfl
  have hs2 : St ok0 w0 w (pl tStr s ⟨gl, 0, none⟩ :: Γ) Λ := hs2
  obtain ⟨ok, bs, ho, hA, hn, hbs, hput⟩ := hs2.split i hi
  have hgok : ok gl := ((hA.get 0 rfl : (pl tStr s ⟨gl, 0, none⟩).holds ok w)).2.1
  have hlt := lt_of_some hgl
  have hvs : ∀ j u, ([bstr s] : List Value)[j]? = some u → w.cell? ⟨gl, 0 + j, none⟩ = some u := by
    intro j u hu
    cases j with
    | zero => rw [blk_cell hgl]; exact hu
    | succ j => simp at hu
  have h1v : ∀ u ∈ ([bstr s] : List Value), u.oneCell' = true := by intro u hu; simp at hu; subst hu; rfl
  have h1c : ∀ u ∈ xs.map bstr, u.oneCell' = true := by intro u hu; obtain ⟨x, _, rfl⟩ := List.mem_map.1 hu; rfl
  have hlen : (xs.take k ++ s :: xs.drop k).length = xs.length + 1 := by simp; omega
  have hmap : (xs.take k ++ s :: xs.drop k).map bstr = (xs.map bstr).take k ++ bstr s :: (xs.map bstr).drop k := by simp
  have fin : ∀ {v' : Value} {bs' : List Nat} {w' : World}, Off bs w w' → bs'.Nodup → (∀ b ∈ bs', (b ∈ bs ∨ w.heap.size ≤ b) ∧ b < w'.heap.size) → (∀ ok', (own tStr 9 v' (xs.take k ++ s :: xs.drop k)).H ok' bs' w') → St ok0 w0 w' Γ (Λ.set i (own tStr 9 v' (xs.take k ++ s :: xs.drop k))) :=
    fun h1 h2 h3 h4 => (hput _ _ _ h1 h2 h3 fun ok' _ => h4 ok').sub fun it hi => List.mem_cons_of_mem _ hi
  -- a new block
  have fresh : ∀ (c' : Nat) (w' : World) (cur : List Value), w'.heap[w.heap.size]? = some (.cells ((xs.take k ++ s :: xs.drop k).map bstr ++ cur).toArray 9 (0, 0)) → Below w.heap.size w w' → xs.length + 1 + cur.length = c' → c' ≤ maxLen →
      St ok0 w0 w' Γ (Λ.set i (own tStr 9 (.slice (some ⟨w.heap.size, 0, none⟩) (xs.length + 1) c') (xs.take k ++ s :: xs.drop k))) := by
    intro c' w' cur h1 h2 h3 h4
    refine fin (bs' := [w.heap.size]) (Off.of_below h2 bs) (by simp) (fun b hb => ?_) fun ok' => ?_
    · simp at hb; subst hb
      exact ⟨.inr (Nat.le_refl _), lt_of_some h1⟩
    · have := own_of (w := w') (g := w.heap.size) (c := c') (xs := xs.take k ++ s :: xs.drop k) (cur := cur) ok' (by omega) h1 (by omega) h4
      rw [hlen] at this
      exact this
  have hge := fun c => grownCap_ge w (xs.length + 1) c (ren.t 9)
  have hle := fun c => grownCap_le_maxLen w (xs.length + 1) c (ren.t 9) (by simp only [maxLen]; omega)
  have hz : ∀ n, (Builtin.zeroCells (Value.string ⟨#[]⟩).cells n).size = n := by intro n; simp [Builtin.zeroCells, Value.cells]
  have endgrow : ∀ (base : Option Addr) (c : Nat), k = xs.length → xs.length ≤ c → c < xs.length + 1 → v = .slice base xs.length c → (base = none → xs.length = 0) → (∀ a, base = some a → ∀ (j : Nat) (u : Value), (xs.map bstr)[j]? = some u → w.cell? (a.add j) = some u) →
      Calls P (ren.f 22) #[v, .int .i64 (k : Nat), .slice (some ⟨gl, 0, none⟩) 1 1] w fun e w' => ∃ v', e = .returned v' ∧ St ok0 w0 w' Γ (Λ.set i (own tStr 9 v' (xs.take k ++ s :: xs.drop k))) := by
    intro base c ek hc1 hc2 ev hnil hcs
    subst ev
    rw [ek]
    refine (Any2.slices_Insert_string_end_grow L base xs.length c gl 0 1 1 (xs.map bstr) [bstr s] w (by omega) hc1 hc2 hb (by simp) rfl hnil hcs hvs h1v).mono ?_
    rintro e w' ⟨rfl, rfl⟩
    refine ⟨_, rfl, ?_⟩
    have := fresh (grownCap w (xs.length + 1) c (ren.t 9)) (cur := (Builtin.zeroCells (Value.string ⟨#[]⟩).cells (grownCap w (xs.length + 1) c (ren.t 9) - (xs.length + 1))).toList) (w' := w.drew.alloc (.cells ((xs.map bstr ++ [bstr s]).toArray ++ Builtin.zeroCells (Value.string ⟨#[]⟩).cells (grownCap w (xs.length + 1) c (ren.t 9) - (xs.length + 1))) (ren.t 9))) ?_ ?_ ?_ (hle c)
    · rw [ek] at this; exact this
    · have := heap_new w.drew (.cells ((xs.map bstr ++ [bstr s]).toArray ++ Builtin.zeroCells (Value.string ⟨#[]⟩).cells (grownCap w (xs.length + 1) c (ren.t 9) - (xs.length + 1))) (ren.t 9))
      rw [drew_heap] at this
      rw [this, hmap, ek, h9]
      have e1 : (xs.map bstr).take xs.length = xs.map bstr := List.take_of_length_le (by simp)
      have e2 : (xs.map bstr).drop xs.length = [] := List.drop_of_length_le (by simp)
      rw [e1, e2]
      congr 2
      simp
    · exact ⟨rfl, rfl, rfl, by simp [size_alloc, drew_heap], fun b hb => (below_alloc w.drew _).block b hb⟩
    · have e3 : ∀ n, (Builtin.zeroCells (Value.string ⟨#[]⟩).cells n).toList.length = n := fun n => by rw [Array.length_toList (xs := Builtin.zeroCells (Value.string ⟨#[]⟩).cells n), hz]
      rw [e3]
      have := hge c
      omega
  rcases own_str ho with ⟨a, rfl, rfl, rfl⟩ | ⟨g, c, cur, rfl, hc0, rfl, hg, hl, hm⟩
  · exact endgrow a 0 (by simpa using hk) (Nat.le_refl _) (by simp) rfl (fun _ => rfl) (by simp)
  · have hne : gl ≠ g := fun e => by
      have := (hbs g (by simp)).1
      rw [e] at hgok
      exact this hgok
    have hcell : ∀ j, w.cell? ⟨g, j, none⟩ = (xs.map bstr ++ cur)[j]? := blk_cell hg
    have hcs0 : ∀ (j : Nat) (u : Value), (xs.map bstr)[j]? = some u → w.cell? ⟨g, 0 + j, none⟩ = some u := by
      intro j u hu
      have hj := (List.getElem?_eq_some_iff.1 hu).1
      rw [Nat.zero_add, hcell, List.getElem?_append_left hj]
      exact hu
    have hgsz : g < w.heap.size := lt_of_some hg
    have hcs1 : ∀ a, some (⟨g, 0, none⟩ : Addr) = some a → ∀ (j : Nat) (u : Value), (xs.map bstr)[j]? = some u → w.cell? (a.add j) = some u := by
      intro a ea j u hu
      cases ea
      rw [addr_add]
      exact hcs0 j u hu
    by_cases hroom : xs.length + 1 ≤ c
    · -- there is room
      have hcur : 0 < cur.length := by omega
      obtain ⟨u0, cur', rfl⟩ : ∃ u0 cur', cur = u0 :: cur' := by
        cases cur with
        | nil => simp at hcur
        | cons u t => exact ⟨u, t, rfl⟩
      have inpl : ∀ (w' : World) (vs : List Value) (j : Nat), w' = setCells (setCells w.drew g j vs) g k [bstr s] ∨ (vs = [] ∧ w' = setCells w g k [bstr s]) → setAt (setAt (xs.map bstr ++ u0 :: cur') j vs) k [bstr s] = (xs.take k ++ s :: xs.drop k).map bstr ++ cur' →
          St ok0 w0 w' Γ (Λ.set i (own tStr 9 (.slice (some ⟨g, 0, none⟩) (xs.length + 1) c) (xs.take k ++ s :: xs.drop k))) := by
        intro w' vs j hw hset
        have hheap : w'.heap[g]? = some (.cells ((xs.take k ++ s :: xs.drop k).map bstr ++ cur').toArray 9 (0, 0)) := by
          rw [← hset]
          rcases hw with rfl | ⟨rfl, rfl⟩
          · exact heap_setCells [bstr s] (heap_setCells vs (w := w.drew) hg)
          · exact heap_setCells [bstr s] hg
        have hoff : Off [g] w w' := by
          rcases hw with rfl | ⟨rfl, rfl⟩
          · exact ((Off.drew [g] w).trans (off_setCells g vs _ _)).trans (off_setCells g [bstr s] _ _)
          · exact off_setCells g [bstr s] _ _
        refine fin (bs' := [g]) hoff (by simp) (fun b hb => ?_) fun ok' => ?_
        · simp at hb; subst hb
          exact ⟨.inl (by simp), lt_of_some hheap⟩
        · have := own_of (w := w') (g := g) (c := c) (xs := xs.take k ++ s :: xs.drop k) (cur := cur') ok' hc0 hheap (by simp at hl ⊢; omega) hm
          rw [hlen] at this
          exact this
      have hfz : ∀ j, w.frozen? ⟨g, j, none⟩ = false := by
        intro j
        simp [World.frozen?, hg]
      rcases Nat.lt_or_ge k xs.length with hk1 | hk1
      · refine (Any2.slices_Insert_string_shift L g 0 xs.length c k gl 0 1 1 (xs.map bstr) [bstr s] w hk1 (by omega) hroom (by unfold maxLen at hm; omega) hne (by simp) rfl hcs0 (fun j hj => ?_) (fun j hj => hfz _) hvs h1c h1v 9 9 1 c ?_ ?_ (by omega) ?_ ?_).mono ?_
        · rw [Nat.zero_add, hcell, List.getElem?_eq_getElem (by simp; omega)]
          rfl
        · simp [World.shape?, hgl]
        · simp [World.shape?, hg]
          simp at hl; omega
        · simp [World.frozen?, hgl]
        · simp [World.frozen?, hgl]
        · rintro e w' ⟨rfl, rfl⟩
          refine ⟨_, rfl, inpl _ ((xs.map bstr).drop k) (k + 1) (.inl ?_) ?_⟩
          · rw [wset_eq, wset_eq, Nat.zero_add, Nat.zero_add]
          · rw [hmap]
            have e1 : setAt (xs.map bstr ++ u0 :: cur') (k + 1) ((xs.map bstr).drop k) = (xs.map bstr ++ u0 :: cur').take (k + 1) ++ (xs.map bstr).drop k ++ (xs.map bstr ++ u0 :: cur').drop (k + 1 + ((xs.map bstr).drop k).length) := setAt_eq _ _ _ (by simp; omega)
            have e2 : (xs.map bstr ++ u0 :: cur').drop (k + 1 + ((xs.map bstr).drop k).length) = cur' := by
              have : k + 1 + ((xs.map bstr).drop k).length = (xs.map bstr).length + 1 := by simp; omega
              rw [this, ← List.drop_drop, List.drop_left]
              rfl
            have e3 : (xs.map bstr ++ u0 :: cur').take (k + 1) = (xs.map bstr).take k ++ [(xs.map bstr)[k]'(by simpa using hk1)] := by
              rw [List.take_append_of_le_length (by simp; omega), List.take_succ_eq_append_getElem (by simpa using hk1)]
            rw [e1, e2, e3, setAt_eq _ _ _ (by simp; omega)]
            have e4 : ((xs.map bstr).take k ++ [(xs.map bstr)[k]'(by simpa using hk1)] ++ (xs.map bstr).drop k ++ cur').take k = (xs.map bstr).take k := by
              rw [List.append_assoc, List.append_assoc, List.take_append_of_le_length (by simp; omega), List.take_of_length_le (by simp; omega)]
            have e5 : ((xs.map bstr).take k ++ [(xs.map bstr)[k]'(by simpa using hk1)] ++ (xs.map bstr).drop k ++ cur').drop (k + 1) = (xs.map bstr).drop k ++ cur' := by
              have hl1 : k + 1 = ((xs.map bstr).take k ++ [(xs.map bstr)[k]'(by simpa using hk1)]).length := by simp; omega
              rw [List.append_assoc, hl1, List.drop_left]
            rw [e4, show k + [bstr s].length = k + 1 from rfl, e5]
            simp
      · have ek : k = xs.length := by omega
        rw [ek]
        refine (Any2.slices_Insert_string_end_room L g 0 xs.length c gl 0 1 1 [bstr s] w (by omega) hroom (by unfold maxLen at hm; omega) rfl (fun j hj => ?_) (fun j hj => hfz _) hvs h1v).mono ?_
        · rw [Nat.zero_add, hcell, List.getElem?_eq_getElem (by simp; omega)]
          rfl
        · rintro e w' ⟨rfl, rfl⟩
          refine ⟨_, rfl, ?_⟩
          have := inpl (World.setCells w g (0 + xs.length) [bstr s]) [] 0 (.inr ⟨rfl, by rw [wset_eq, Nat.zero_add, ek]⟩) ?_
          · rw [ek] at this; exact this
          · rw [hmap, ek]
            show setAt (xs.map bstr ++ u0 :: cur') xs.length [bstr s] = _
            have hl1 : xs.length = (xs.map bstr).length := by simp
            rw [setAt_eq _ _ _ (by simp), hl1, List.take_left, List.take_of_length_le (Nat.le_refl _), List.drop_of_length_le (Nat.le_refl _), show [bstr s].length = 1 from rfl, ← List.drop_drop, List.drop_left]
            simp
    · have hcl : c = xs.length := by omega
      rcases Nat.lt_or_ge k xs.length with hk1 | hk1
      · refine (Any2.slices_Insert_string_grow L g 0 xs.length c k gl 0 1 1 (xs.map bstr) [bstr s] w hk1 (by omega) (by omega) (by omega) hb (by simp) rfl hcs0 hvs h1c h1v).mono ?_
        rintro e w' ⟨rfl, rfl⟩
        refine ⟨_, rfl, ?_⟩
        have hgc := hge c
        obtain ⟨W1, hW1⟩ : ∃ W1, w.alloc (.cells (((xs.map bstr).take k).toArray ++ Builtin.zeroCells (Value.string ⟨#[]⟩).cells (xs.length + 1 - k) ++ Builtin.zeroCells (Value.string ⟨#[]⟩).cells (grownCap w (xs.length + 1) c (ren.t 9) - (xs.length + 1))) (ren.t 9)) = W1 := ⟨_, rfl⟩
        have hn1 := heap_new w (.cells (((xs.map bstr).take k).toArray ++ Builtin.zeroCells (Value.string ⟨#[]⟩).cells (xs.length + 1 - k) ++ Builtin.zeroCells (Value.string ⟨#[]⟩).cells (grownCap w (xs.length + 1) c (ren.t 9) - (xs.length + 1))) (ren.t 9))
        have hb1 := below_alloc w (.cells (((xs.map bstr).take k).toArray ++ Builtin.zeroCells (Value.string ⟨#[]⟩).cells (xs.length + 1 - k) ++ Builtin.zeroCells (Value.string ⟨#[]⟩).cells (grownCap w (xs.length + 1) c (ren.t 9) - (xs.length + 1))) (ren.t 9))
        rw [hW1] at hn1 hb1 ⊢
        rw [wset_eq, wset_eq]
        obtain ⟨Z1, hZ1⟩ : ∃ Z1, (Builtin.zeroCells (Value.string ⟨#[]⟩).cells (xs.length + 1 - k)).toList = Z1 := ⟨_, rfl⟩
        obtain ⟨Z2, hZ2⟩ : ∃ Z2, (Builtin.zeroCells (Value.string ⟨#[]⟩).cells (grownCap w (xs.length + 1) c (ren.t 9) - (xs.length + 1))).toList = Z2 := ⟨_, rfl⟩
        have hz1 : Z1.length = xs.length + 1 - k := by rw [← hZ1, Array.length_toList (xs := Builtin.zeroCells (Value.string ⟨#[]⟩).cells (xs.length + 1 - k)), hz]
        have hz2 : Z2.length = grownCap w (xs.length + 1) c (ren.t 9) - (xs.length + 1) := by rw [← hZ2, Array.length_toList (xs := Builtin.zeroCells (Value.string ⟨#[]⟩).cells (grownCap w (xs.length + 1) c (ren.t 9) - (xs.length + 1))), hz]
        have hn2 : W1.heap[w.heap.size]? = some (.cells ((xs.map bstr).take k ++ Z1 ++ Z2).toArray 9 (0, 0)) := by
          rw [hn1, ← hZ1, ← hZ2, h9]
          simp
        have hl0 : ((xs.map bstr).take k).length = k := by simp; omega
        have hset : setAt (setAt ((xs.map bstr).take k ++ Z1 ++ Z2) k [bstr s]) (k + 1) ((xs.map bstr).drop k) = (xs.take k ++ s :: xs.drop k).map bstr ++ Z2 := by
          have e1 : ((xs.map bstr).take k ++ Z1 ++ Z2).take k = (xs.map bstr).take k := by
            rw [List.append_assoc, List.take_append_of_le_length (by omega), List.take_of_length_le (by omega)]
          have e0 := setAt_eq [bstr s] ((xs.map bstr).take k ++ Z1 ++ Z2) k (by rw [List.length_append, List.length_append, hz1, hl0, List.length_singleton]; omega)
          rw [e1] at e0
          rw [hmap, e0, setAt_eq _ _ _ (by simp only [List.length_append, List.length_drop, List.length_map, List.length_singleton, hz1, hl0]; omega)]
          have e2 : ((xs.map bstr).take k ++ [bstr s] ++ ((xs.map bstr).take k ++ Z1 ++ Z2).drop (k + [bstr s].length)).take (k + 1) = (xs.map bstr).take k ++ [bstr s] := by
            rw [List.take_append_of_le_length (by simp; omega), List.take_of_length_le (by simp; omega)]
          have e3 : ((xs.map bstr).take k ++ [bstr s] ++ ((xs.map bstr).take k ++ Z1 ++ Z2).drop (k + [bstr s].length)).drop (k + 1 + ((xs.map bstr).drop k).length) = Z2 := by
            have q1 : k + 1 = ((xs.map bstr).take k ++ [bstr s]).length := by simp; omega
            rw [← List.drop_drop, q1, List.drop_left, List.drop_drop]
            have q2 : k + [bstr s].length + ((xs.map bstr).drop k).length = ((xs.map bstr).take k ++ Z1).length := by simp [hz1]; omega
            rw [q2, List.drop_left]
          rw [e2, e3]
          simp
        have hheap : (setCells (setCells W1.drew w.heap.size k [bstr s]).drew w.heap.size (k + 1) ((xs.map bstr).drop k)).heap[w.heap.size]? = some (.cells ((xs.take k ++ s :: xs.drop k).map bstr ++ Z2).toArray 9 (0, 0)) := by
          rw [← hset]
          exact heap_setCells _ (w := (setCells W1.drew w.heap.size k [bstr s]).drew) (heap_setCells [bstr s] (w := W1.drew) hn2)
        refine fresh _ _ Z2 hheap ?_ (by rw [hz2]; omega) (hle c)
        have o1 : Off [w.heap.size] W1 (setCells (setCells W1.drew w.heap.size k [bstr s]).drew w.heap.size (k + 1) ((xs.map bstr).drop k)) :=
          ((Off.drew _ W1).trans (off_setCells _ _ _ _)).trans ((Off.drew _ _).trans (off_setCells _ _ _ _))
        exact ⟨o1.os.trans hb1.os, o1.tape.trans hb1.tape, o1.output.trans hb1.output, Nat.le_trans hb1.size o1.size, fun b hb => (o1.block b (Nat.lt_of_lt_of_le hb hb1.size) (by simp; omega)).trans (hb1.block b hb)⟩
      · exact endgrow _ c (by omega) (by omega) (by omega) rfl (by intro h; cases h) hcs1
end
end Go.Proofs.YtpfgdjfiimknlaaL
set_option linter.unusedVariables false
set_option linter.unusedSimpArgs false
namespace Go.Proofs.YtpfgdjfiimknlaaL
open Go Go.RowKit
section
variable {P : Program} {N : Nat} {Q : QE} {ρ : Env} {w w' : World} {w0 : Base} {ok0 : Nat → Prop} {Γ : List It} {Λ : List LObj}
variable {d : Option Tmp} {ty : TypeId} {pos : String} {aft : Array Edge} {gd : Option (Nat × Bool)} {ops : Array Oper} {rest : List Oper}
theorem St.drewN (hs : St ok0 w0 w Γ Λ) (q : Nat) : St ok0 w0 (w.drewN q) Γ Λ := hs.below ⟨rfl, rfl, rfl, Nat.le_refl _, fun _ _ => rfl⟩
theorem mapEq_run {T K V : TypeId} {a : Option Nat} (hT : P.underlying T = some (.map K V)) (w : World) : (Op.equal T (.map a) (.map none)).run P w = .ok a.isNone w := by
  show (Op.equalIn 10000 T (.map a) (.map none)).run P w = _
  unfold Op.equalIn
  refine (run_bind (run_und hT w)).trans ?_
  cases a <;> rfl
theorem WL.nilEqM {T K V T' : TypeId} {x : Operand} {a : Option Nat} (hT : P.underlying T = some (.map K V)) (hx : ρ.ev x = .map a)
    (K : WL P N ops Q rest (putE ρ d (.bool a.isNone)) w)
    (hg : wantedE ops ρ ⟨d, .binOp .eql T x (.const (.map none)) T', ty, pos, aft, gd⟩ = true := by rfl) (hd : fits N d = true := by rfl) :
    WL P N ops Q (⟨d, .binOp .eql T x (.const (.map none)) T', ty, pos, aft, gd⟩ :: rest) ρ w :=
  WL.value hg hd (v := .bool a.isNone) (w' := w) (by
    show (do pure (Next.value (← (do eqGuard .eql T x (.const (.map none)) (ρ.ev x) (.map none); binOp .eql T (ρ.ev x) (.map none)))) : Sem Next).run P w = _
    rw [hx]
    refine exec_v ((run_bind (x := ()) (w' := w) (by unfold eqGuard; rfl)).trans ?_)
    show (do pure (Value.bool (← Op.equal T (.map a) (.map none))) : Sem Value).run P w = _
    exact (run_bind (mapEq_run hT w)).trans rfl) K
theorem WL.callR {f : FuncId} {args : List Operand} {ats : Array TypeId} {vs : List Value} {R : Value → World → Prop} (hf : FN P f) (ha : Evs ρ args vs)
    (hc : Calls P f vs.toArray w fun e w' => ∃ v, e = .returned v ∧ R v w')
    (K : ∀ v w', R v w' → WL P N ops Q rest (putE ρ d v) w')
    (hg : wantedE ops ρ ⟨d, .call { callee := .value (.func f), args := args.toArray, argTypes := ats }, ty, pos, aft, gd⟩ = true := by rfl) (hd : fits N d = true := by rfl) :
    WL P N ops Q (⟨d, .call { callee := .value (.func f), args := args.toArray, argTypes := ats }, ty, pos, aft, gd⟩ :: rest) ρ w := by
  refine WL.enter (R := R) hg hd (w' := w) (f := f) (args := vs.toArray) ?_ hc K
  show (invoke (.fn (.func f) #[]) (#[] ++ args.toArray.map ρ.ev)).run P w = _
  rw [List.map_toArray, ha.map]
  simpa [invoke] using hf vs.toArray w
theorem St.bldWeak {φ : Type} {K : FK φ} {C : List (BE φ) → Prop} {g : Nat} {x : List (List UInt8 × List φ)} (hs : St ok0 w0 w Γ (bldc K C g x :: Λ)) : St ok0 w0 w Γ (bldo K g x :: Λ) := by
  obtain ⟨b, ⟨_, hc⟩, h⟩ := hs.bldOpen
  exact St.bldClose (K := K) h trivial hc
theorem WL.holeLook {φ : Type} (K : FK φ) {h : Hole φ} {g : Nat} {t kt et : TypeId} {m xo : Operand} (hs : St ok0 w0 w Γ (allo (holeL K g h) :: Λ)) (hk : KK P kt bstr) (ht : P.underlying t = some (.map kt et)) (hm : ρ.ev m = .map (some g)) (hx : ρ.ev xo = bstr h.k) (hz : ∀ w, (zeroValue et).run P w = .ok (.map none) w)
    (hb : ∀ q ∈ h.b1, q.1 ≠ h.k)
    (K1 : WL P N ops Q rest (putE ρ d (.map (some h.gi))) w)
    (hg : wantedE ops ρ ⟨d, .lookup t m xo false, ty, pos, aft, gd⟩ = true := by rfl) (hd : fits N d = true := by rfl) :
    WL P N ops Q (⟨d, .lookup t m xo false, ty, pos, aft, gd⟩ :: rest) ρ w := by
  have h1 : St ok0 w0 w Γ (mapo bstr tCell g (outL h.all) :: (mapo bstr (tRaw K.n) h.gi (ents K (h.f1 ++ (h.y, h.v) :: h.f2)) :: (owns K (h.f1 ++ h.f2) ++ restL K (h.b1 ++ h.b2)) ++ Λ)) := hs.allOpen
  refine WL.lookup (V := tCell) (z0 := Value.map none) h1 0 rfl hk ht hm hx hz (fun _ _ => tCell_V.2 ⟨rfl, rfl⟩) rfl (fun v h3 => ?_) hg hd
  have hv := h3.cellv 0 rfl
  have ha : (outL h.all).lookup h.k = some (Value.map (some h.gi)) := at_hole hb
  rw [ha] at hv
  rw [hv]
  exact K1
end
end Go.Proofs.YtpfgdjfiimknlaaL
set_option linter.unusedVariables false
set_option linter.unusedSimpArgs false
namespace Go.Proofs.YtpfgdjfiimknlaaL
open Go Go.RowKit
section
variable {w : World} {w0 : Base} {ok0 : Nat → Prop} {Γ : List It} {Λ : List LObj}
theorem St.drop1 {o : LObj} (hs : St ok0 w0 w Γ (o :: Λ)) : St ok0 w0 w Γ Λ := by
  obtain ⟨hB, bss, hN, hlt, hO, hA⟩ := hs
  match bss, hO with
  | [], h => exact h.elim
  | bs :: b2, ⟨_, h2⟩ =>
    have hsub : b2.flatten.Sublist (bs :: b2).flatten := by rw [List.flatten_cons]; exact List.sublist_append_right _ _
    have hm : ∀ b, reg ok0 w0 (bs :: b2).flatten b → b < w.heap.size → w.heap[b]? = w.heap[b]? ∧ reg ok0 w0 b2.flatten b := fun b hr _ => ⟨rfl, hr.1, fun h => hr.2 (hsub.subset h)⟩
    exact ⟨hB, b2, hN.sublist hsub, fun b hb => hlt b (hsub.subset hb), h2.move hm fun _ _ => rfl, hA.move hm⟩
theorem St.dropL {R : List LObj} (hs : St ok0 w0 w Γ (R ++ Λ)) : St ok0 w0 w Γ Λ := hs.allClose.drop1
end
section
variable {φ : Type} (K : FK φ)
def inno (gi : Nat) (fs : List φ) : LObj where
  H := fun ok bs w => ∃ l : List (φ × Value), l.map (·.1) = fs ∧ (allo (inL K ([], gi, l))).H ok bs w
  fn := by
    rintro ok ok' bs bs' w ⟨l, _, bss, rfl, _, h⟩ ⟨l', _, bss', rfl, _, h'⟩
    have hfp : ∀ (o : BE φ), ∀ p ∈ inP K o, ∀ (ok : Nat → Prop) (bs : List Nat) (w : World), p.1.H ok bs w → bs = p.2 := by
      intro o p hp ok bs w hh
      unfold inP at hp
      rcases List.mem_cons.1 hp with rfl | hp
      · exact hh.1
      · obtain ⟨e, _, rfl⟩ := List.mem_map.1 hp
        exact own_fp hh
    have e1 := Own.eqs (hfp ([], gi, l)) h
    have e2 := Own.eqs (hfp ([], gi, l')) h'
    have m1 := Own.mem h
    have m2 := Own.mem h'
    have key := inP_fps (ok := ok) (ok' := ok') (w := w) K [([], gi, l)] [([], gi, l')] rfl (fun o ho => by
      simp at ho; subst ho
      exact m1 _ (List.mem_cons_self ..)) (fun o ho => by
      simp at ho; subst ho
      exact m2 _ (List.mem_cons_self ..))
    simp only [List.flatMap_cons, List.flatMap_nil, List.append_nil] at key
    rw [e1, e2, key]
  lt := by
    rintro ok bs w ⟨l, _, h⟩ k hk
    exact (allo _).lt h k hk
  move := by
    rintro ok ok' bs w w' ⟨l, hl, h⟩ hk hm
    exact ⟨l, hl, (allo _).move h hk hm⟩
variable {w : World} {w0 : Base} {ok0 : Nat → Prop} {Γ : List It} {Λ : List LObj} {g gi : Nat} {fs : List φ} {x : List (List UInt8 × List φ)} {C : List (BE φ) → Prop}
theorem inL_eq (k : List UInt8) (gi : Nat) (l : List (φ × Value)) : inL K (k, gi, l) = mapo bstr (tRaw K.n) gi (ents K l) :: owns K l := by
  unfold inL inP ents owns
  rw [List.map_cons, List.map_map]
  rfl
theorem St.innOpen (hs : St ok0 w0 w Γ (inno K gi fs :: Λ)) : ∃ l : List (φ × Value), l.map (·.1) = fs ∧ St ok0 w0 w Γ (mapo bstr (tRaw K.n) gi (ents K l) :: (owns K l ++ Λ)) := by
  obtain ⟨hB, bss, hN, hlt, hO, hA⟩ := hs
  match bss, hO with
  | [], h => exact h.elim
  | bs :: bss, ⟨⟨l, hl, h1⟩, h2⟩ =>
    have h3 : St ok0 w0 w Γ (allo (inL K ([], gi, l)) :: Λ) := ⟨hB, bs :: bss, hN, hlt, ⟨h1, h2⟩, hA⟩
    have h4 := h3.allOpen
    rw [inL_eq] at h4
    exact ⟨l, hl, h4⟩
theorem St.innClose {l : List (φ × Value)} (hs : St ok0 w0 w Γ (mapo bstr (tRaw K.n) gi (ents K l) :: (owns K l ++ Λ))) (hl : l.map (·.1) = fs) : St ok0 w0 w Γ (inno K gi fs :: Λ) := by
  have h1 : St ok0 w0 w Γ (inL K ([], gi, l) ++ Λ) := by rw [inL_eq]; exact hs
  obtain ⟨hB, bss, hN, hlt, hO, hA⟩ := h1.allClose
  match bss, hO with
  | [], h => exact h.elim
  | bs :: bss, ⟨h1, h2⟩ => exact ⟨hB, bs :: bss, hN, hlt, ⟨⟨l, hl, h1⟩, h2⟩, hA⟩
theorem owns_perm (f1 f2 : List (φ × Value)) (y : φ) (v : Value) : (owns K (f1 ++ (y, v) :: f2)).Perm (own tStr K.E v (K.fe y) :: owns K (f1 ++ f2)) := by
  unfold owns
  rw [List.map_append, List.map_cons, List.map_append]
  exact List.perm_middle
variable {P : Program} {N : Nat} {Q : QE} {ρ : Env} {d : Option Tmp} {ty : TypeId} {pos : String} {aft : Array Edge} {gd : Option (Nat × Bool)} {ops : Array Oper} {rest : List Oper}
theorem WL.innPut {t kt et : TypeId} {m xo u : Operand} {y : φ} {v : Value} (hs : St ok0 w0 w Γ (own tStr K.E v (K.fe y) :: inno K gi fs :: Λ)) (hk : KK P kt bstr) (ht : P.underlying t = some (.map kt et)) (hm : ρ.ev m = .map (some gi)) (hx : ρ.ev xo = bstr (K.nm y))
    (hu : ρ.ev u = .agg (K.fc y v).toArray) (h1 : (K.fc y v).length = K.n) (h2 : ∀ u ∈ K.fc y v, u.oneCell' = true)
    (K1 : ∀ w', St ok0 w0 w' Γ (inno K gi (fput K.nm y fs) :: Λ) → WL P N ops Q rest (putE ρ d undef) w')
    (hg : wantedE ops ρ ⟨d, .mapUpdate t m xo u, ty, pos, aft, gd⟩ = true := by rfl) (hd : fits N d = true := by rfl) :
    WL P N ops Q (⟨d, .mapUpdate t m xo u, ty, pos, aft, gd⟩ :: rest) ρ w := by
  obtain ⟨l, hl, h3⟩ := (hs.perm (List.Perm.swap _ _ _)).innOpen
  cases hf : fs.find? (fun q => K.nm y == K.nm q) with
  | none =>
    rw [← hl] at hf
    have e6 : ents K l ++ [(K.nm y, K.fc y v)] = ents K (l ++ [(y, v)]) := by
      unfold ents
      rw [List.map_append]
      rfl
    refine WL.mapUpdate (V := tRaw K.n) (y := K.fc y v) h3 0 rfl hk ht hm hx hu (fun _ _ => tRaw_V.2 ⟨rfl, h1, h2⟩) ((mset_none (ents_none K hf)).trans e6) (fun w' h5 => ?_) hg hd
    have h6 : St ok0 w0 w' Γ (mapo bstr (tRaw K.n) gi (ents K (l ++ [(y, v)])) :: (owns K l ++ (own tStr K.E v (K.fe y) :: Λ))) := h5
    refine K1 w' (St.innClose (K := K) (l := l ++ [(y, v)]) (h6.perm (List.Perm.cons _ ?_)) ?_)
    · have e9 : owns K (l ++ [(y, v)]) = owns K l ++ [own tStr K.E v (K.fe y)] := by
        unfold owns
        rw [List.map_append]
        rfl
      rw [e9, List.append_assoc]
      exact .refl _
    · rw [List.map_append, ← hl, fput_none hf]
      rfl
  | some y0 =>
    rw [← hl] at hf
    obtain ⟨f1, v0, f2, rfl, q1, q2, q3⟩ := ents_at K hf
    have q3' : ∀ e ∈ f1, K.nm y0 ≠ K.nm e.1 := fun e he => by rw [← q1]; exact q3 e he
    refine WL.mapUpdate (V := tRaw K.n) (y := K.fc y v) h3 0 rfl hk ht hm hx hu (l' := ents K (f1 ++ (y, v) :: f2)) (fun _ _ => tRaw_V.2 ⟨rfl, h1, h2⟩) (by rw [q1]; exact mset_ents K q1 q3') (fun w' h5 => ?_) hg hd
    have h6 : St ok0 w0 w' Γ (mapo bstr (tRaw K.n) gi (ents K (f1 ++ (y, v) :: f2)) :: (owns K (f1 ++ (y0, v0) :: f2) ++ (own tStr K.E v (K.fe y) :: Λ))) := h5
    have h7 : St ok0 w0 w' Γ (own tStr K.E v0 (K.fe y0) :: (mapo bstr (tRaw K.n) gi (ents K (f1 ++ (y, v) :: f2)) :: (owns K (f1 ++ f2) ++ (own tStr K.E v (K.fe y) :: Λ)))) := h6.perm (by
      refine (List.Perm.cons _ ((owns_perm K f1 f2 y0 v0).append_right _)).trans ?_
      exact List.Perm.swap _ _ _)
    refine K1 w' (St.innClose (K := K) (l := f1 ++ (y, v) :: f2) (h7.drop1.perm (List.Perm.cons _ ?_)) ?_)
    · refine List.perm_middle.trans ?_
      exact ((owns_perm K f1 f2 y v).symm).append_right Λ
    · rw [List.map_append, List.map_cons, ← hl, List.map_append, List.map_cons, fput_at q1 (fun e he => by
        obtain ⟨q, hq, rfl⟩ := List.mem_map.1 he
        exact q3' q hq)]
theorem mset_out {b1 b2 : List (BE φ)} {k : List UInt8} {gi gi' : Nat} {l l' : List (φ × Value)} (hb : ∀ q ∈ b1, q.1 ≠ k) : mset (outL (b1 ++ (k, gi, l) :: b2)) k (Value.map (some gi')) = outL (b1 ++ (k, gi', l') :: b2) := by
  unfold outL
  induction b1 with
  | nil => rw [List.nil_append, List.nil_append, List.map_cons, List.map_cons, mset, if_pos (by simp)]
  | cons q b1 ih =>
    rw [List.cons_append, List.cons_append, List.map_cons, List.map_cons, mset]
    have : (k == q.1) = false := by
      rw [beq_eq_false_iff_ne]
      exact fun e => hb q (by simp) e.symm
    rw [this, if_neg (by simp), ih fun r hr => hb r (by simp [hr])]
theorem WL.bldAttach {t kt et : TypeId} {m xo u : Operand} {k : List UInt8} (hs : St ok0 w0 w Γ (inno K gi fs :: bldc K C g x :: Λ)) (hk : KK P kt bstr) (ht : P.underlying t = some (.map kt et)) (hm : ρ.ev m = .map (some g)) (hx : ρ.ev xo = bstr k) (hu : ρ.ev u = .map (some gi))
    (K1 : ∀ w', St ok0 w0 w' Γ (bldo K g (mset x k fs) :: Λ) → WL P N ops Q rest (putE ρ d undef) w')
    (hg : wantedE ops ρ ⟨d, .mapUpdate t m xo u, ty, pos, aft, gd⟩ = true := by rfl) (hd : fits N d = true := by rfl) :
    WL P N ops Q (⟨d, .mapUpdate t m xo u, ty, pos, aft, gd⟩ :: rest) ρ w := by
  obtain ⟨b, ⟨hC, hc⟩, h1⟩ := (hs.perm (List.Perm.swap _ _ _)).bldOpen
  subst hc
  have h2 : St ok0 w0 w Γ (mapo bstr tCell g (outL b) :: (restL K b ++ (inno K gi fs :: Λ))) := h1
  have fin : ∀ (b' : List (BE φ)) (l : List (φ × Value)) (w' : World), l.map (·.1) = fs → cont b' = mset (cont b) k fs → mset (outL b) k (Value.map (some gi)) = outL b' → St ok0 w0 w' Γ (bldL K g b' ++ Λ) → St ok0 w0 w' Γ (bldo K g (mset (cont b) k fs) :: Λ) :=
    fun b' l w' _ h1 _ h2 => St.bldClose (K := K) (b := b') h2 trivial h1
  cases hl : (cont b).lookup k with
  | none =>
    refine WL.mapUpdate (V := tCell) (y := Value.map (some gi)) h2 0 rfl hk ht hm hx hu (fun _ _ => tCell_V.2 ⟨rfl, rfl⟩) (mset_none (cont_none hl)) (fun w' h3 => ?_) hg hd
    have h4 : St ok0 w0 w' Γ (mapo bstr tCell g (outL b ++ [(k, Value.map (some gi))]) :: (restL K b ++ (inno K gi fs :: Λ))) := h3
    have h5 : St ok0 w0 w' Γ (inno K gi fs :: (mapo bstr tCell g (outL b ++ [(k, Value.map (some gi))]) :: (restL K b ++ Λ))) := h4.perm (by
      refine (List.Perm.cons _ List.perm_middle).trans ?_
      exact List.Perm.swap _ _ _)
    obtain ⟨l, hl2, h6⟩ := h5.innOpen
    refine K1 w' (fin (b ++ [(k, gi, l)]) l w' hl2 ?_ ?_ ?_)
    · unfold cont at hl ⊢
      rw [mset_none hl, List.map_append, ← hl2]
      rfl
    · rw [mset_none (cont_none hl)]
      unfold outL
      rw [List.map_append]
      rfl
    · have e1 : bldL K g (b ++ [(k, gi, l)]) = mapo bstr tCell g (outL b ++ [(k, Value.map (some gi))]) :: (restL K b ++ (mapo bstr (tRaw K.n) gi (ents K l) :: owns K l)) := by
        rw [bldL_eq]
        unfold outL restL
        rw [List.map_append, List.flatMap_append, List.map_append]
        congr 2
        have := inL_eq K k gi l
        unfold inL at this
        simp only [List.flatMap_cons, List.flatMap_nil, List.append_nil]
        exact this
      rw [e1]
      refine h6.perm ?_
      rw [List.cons_append, List.append_assoc]
      refine List.Perm.trans ?_ (List.Perm.cons _ (List.perm_append_comm_assoc _ _ _))
      exact (List.perm_middle (l₁ := mapo bstr (tRaw K.n) gi (ents K l) :: owns K l))
  | some fs0 =>
    obtain ⟨b1, o, b2, rfl, e1, e2, e3, e4⟩ := cont_at hl
    obtain ⟨k0, gi0, l0⟩ := o
    simp only at e1 e2 e3
    subst e1
    refine WL.mapUpdate (V := tCell) (y := Value.map (some gi)) h2 0 rfl hk ht hm hx hu (fun _ _ => tCell_V.2 ⟨rfl, rfl⟩) (mset_out (l' := []) e4) (fun w' h3 => ?_) hg hd
    have h4 : St ok0 w0 w' Γ (mapo bstr tCell g (outL (b1 ++ (k0, gi, []) :: b2)) :: (restL K (b1 ++ (k0, gi0, l0) :: b2) ++ (inno K gi fs :: Λ))) := h3
    have h5 : St ok0 w0 w' Γ (inL K (k0, gi0, l0) ++ (inno K gi fs :: (mapo bstr tCell g (outL (b1 ++ (k0, gi, []) :: b2)) :: (restL K (b1 ++ b2) ++ Λ)))) := h4.perm (by
      refine (List.Perm.cons _ ((restL_perm K b1 b2 (k0, gi0, l0)).append_right _)).trans ?_
      rw [List.append_assoc]
      refine (List.perm_middle.symm).trans ?_
      refine List.Perm.append_left _ ?_
      refine (List.Perm.cons _ List.perm_middle).trans ?_
      exact List.Perm.swap _ _ _)
    obtain ⟨l, hl2, h6⟩ := h5.dropL.innOpen
    refine K1 w' (fin (b1 ++ (k0, gi, l) :: b2) l w' hl2 ?_ ?_ ?_)
    · rw [cont_mset (l := l0) e4, hl2, show cont (b1 ++ (k0, gi, l0) :: b2) = cont (b1 ++ (k0, gi0, l0) :: b2) by unfold cont; simp]
    · exact mset_out e4
    · have e5 : outL (b1 ++ (k0, gi, []) :: b2) = outL (b1 ++ (k0, gi, l) :: b2) := by
        unfold outL
        simp
      rw [e5] at h6
      refine h6.perm ?_
      rw [bldL_eq, List.cons_append]
      have p1 := (restL_perm K b1 b2 (k0, gi, l)).append_right Λ
      rw [inL_eq, List.cons_append, List.cons_append, List.append_assoc] at p1
      refine List.Perm.trans ?_ (List.Perm.cons _ p1.symm)
      refine List.Perm.trans ?_ (List.Perm.swap _ _ _)
      refine List.Perm.cons _ ?_
      exact List.perm_middle
end
end Go.Proofs.YtpfgdjfiimknlaaL
set_option linter.unusedVariables false
set_option linter.unusedSimpArgs false
set_option maxRecDepth 20000
namespace Go.Proofs.Ytpfgdjfiimknlaa
open Go Go.RowKit Go.Proofs.YtpfgdjfiimknlaaL
abbrev rcells (r : fold_Register) : List Value := [.bool r.Set, .int .i64 r.Tag, .int .i64 r.Client, .int .i64 r.Seq, .int .i64 r.N, bstr r.S]
def fcells (y : fold_Field) (v : Value) : List Value := [bstr y.Name, .bool y.Register.Set, .int .i64 y.Register.Tag, .int .i64 y.Register.Client, .int .i64 y.Register.Seq, .int .i64 y.Register.N, bstr y.Register.S, .bool y.HasMax, .int .i64 y.Max, .int .i64 y.Sum, v, .bool y.Flag]
abbrev ecells (e : api_Effect) : List Value := [.int .i64 e.Kind, bstr e.Object, bstr e.Field, .int .i64 e.N, bstr e.S]
theorem regR (ok : Nat → Prop) (w : World) (r : fold_Register) : t_fold_Register.R ok w r (rcells r) := ⟨[.bool r.Set], _, rfl, rfl, ⟨[.int .i64 r.Tag], _, rfl, rfl, ⟨[.int .i64 r.Client], _, rfl, rfl, ⟨[.int .i64 r.Seq], _, rfl, rfl, ⟨[.int .i64 r.N], [bstr r.S], rfl, rfl, rfl⟩⟩⟩⟩⟩
theorem fieldR (ok : Nat → Prop) (w : World) (y : fold_Field) (v : Value) (h : (tSlice tStr).V ok w y.Elems v) : t_fold_Field.R ok w y (fcells y v) :=
  ⟨[bstr y.Name], _, rfl, rfl, ⟨rcells y.Register, [.bool y.HasMax, .int .i64 y.Max, .int .i64 y.Sum, v, .bool y.Flag], rfl, regR ok w y.Register, ⟨[.bool y.HasMax], _, rfl, rfl, ⟨[.int .i64 y.Max], _, rfl, rfl, ⟨[.int .i64 y.Sum], _, rfl, rfl, ⟨[v], [.bool y.Flag], rfl, R_one h, rfl⟩⟩⟩⟩⟩⟩
def FKf : FK fold_Field where
  n := 12
  E := 9
  fc := fcells
  fe := fold_Field.Elems
  nm := fold_Field.Name
  inj := by
    intro x v x' v' h
    unfold fcells at h
    simp only [List.cons.injEq] at h
    exact h.2.2.2.2.2.2.2.2.2.2.1
def FinO (g : Nat) (x1 : fold_B) (k f : List UInt8) (fs : List fold_Field) (O : LObj) : Prop :=
  (∃ h : Hole fold_Field, O = allo (holeL FKf g h) ∧ cont h.all = x1 ∧ h.k = k ∧ f = h.y.Name ∧ (∀ e ∈ h.f1, f ≠ e.1.Name) ∧ ∀ q ∈ h.b1, q.1 ≠ k) ∨
  (∃ C, O = bldc FKf C g x1 ∧ fs.find? (fun q => f == q.Name) = none)
theorem fold_with_at (x : fold_B) (k : List UInt8) : ∃ fs, (fold_with x k).lookup k = some fs := by
  unfold fold_with
  cases h : x.lookup k with
  | some fs => exact ⟨fs, by simpa using h⟩
  | none =>
    simp only [Option.isNone_none, if_true]
    refine ⟨[], ?_⟩
    induction x with
    | nil => simp
    | cons a x ih =>
      rw [List.lookup_cons] at h
      rw [List.cons_append, List.lookup_cons]
      cases hk : k == a.1 with
      | false => rw [hk] at h; exact ih h
      | true => rw [hk] at h; cases h
theorem fold_apply.calls {ok : Nat → Prop} {F : Base} {w0 : World} {x : fold_B} {u : api_Update} {g : Nat} {vu : Value} {r : fold_B} (hf : fold_apply u x = some r) (hs : St ok F w0 [vl t_api_Update u vu] [bldo FKf g x]) :
    Calls Try.prog 28 #[.map (some g), vu] w0 fun e w' => ∃ v, e = .returned v ∧ ∃ y : Unit, v = .tuple #[] ∧ St ok F w' [] [bldo FKf g r] := by
  unfold fold_apply at hf
  obtain ⟨cs, hl, rfl⟩ := hs.aggv (n := 4) 0 rfl rfl rfl
  obtain ⟨a, c, rfl⟩ := open_api_Update hs 0 rfl
  refine calls_of_W (fn := Try.f28) (N := 110) Try.func28 rfl Try.ntmps28 rfl ?_
  refine W.seqK fun K1 hK1 => ?_
  refine W.region ?_
  refine WL.box (vs := [.int .i64 u.Client, .int .i64 u.Seq, .int .i64 u.Tag, .slice a u.Effects.length c]) hs rfl rfl (fun g3 w hs => ?_)
  refine WL.nil ?_
  refine hK1 _ _ ?_
  have hs := hs.front 1 rfl
  refine W.seqK fun K2 hK2 => ?_
  refine W.region ?_
  refine WL.fieldAddr (m := 3) rfl FA47_3 rfl ?_
  refine WL.loadF (z := u.Effects) F_api_Update_Effects hs 1 rfl 0 rfl rfl TI45 (.inr rfl) rfl rfl (fun v hs => ?_)
  obtain ⟨a2, c2, rfl⟩ := hs.slice 0 rfl
  refine WL.len (v := .slice a2 u.Effects.length c2) rfl (len_slice UN45) ?_
  refine WL.move (v := .int .i64 0) rfl ?_
  refine WL.nil ?_
  refine hK2 _ _ ?_
  refine W.block ?_
  refine W.loop hf (fun s ρ w => match s with | (i, x) => ρ 0 = .map (some g) ∧ ρ 3 = .pointer (some ⟨g3, 0, none⟩) ∧ ρ 10 = .slice a2 u.Effects.length c2 ∧ ρ 11 = .int .i64 (u.Effects.length : Int) ∧ ρ 12 = .int .i64 i ∧ St ok F w [vl (tSlice t_api_Effect) u.Effects (.slice a2 u.Effects.length c2), vl t_api_Update u (.agg [.int .i64 u.Client, .int .i64 u.Seq, .int .i64 u.Tag, .slice a u.Effects.length c].toArray)] [bldo FKf g x, blk g3 47 [.int .i64 u.Client, .int .i64 u.Seq, .int .i64 u.Tag, .slice a u.Effects.length c]]) ⟨rfl, rfl, rfl, rfl, rfl, hs⟩ ?_
  intro s ρ w o hI hf hbb
  obtain ⟨i, x⟩ := s
  obtain ⟨h0, h3, h10, h11, h12, hs⟩ := hI
  unfold fold_apply.l1 at hf
  refine W.seqK fun K3 hK3 => ?_
  refine W.region ?_
  refine WL.bin (v := .bool (decide (i < (u.Effects.length : Int)))) h12 h11 (ib_lss _ _ _) ?_
  refine WL.nil ?_
  refine hK3 _ _ ?_
  refine W.seqK fun K4 hK4 => ?_
  rcases iteE hf with ⟨hc, hf⟩ | ⟨hc, hf⟩
  · refine W.cond_true (bool_tr rfl hc) ?_
    refine W.skip ?_
    refine hK4 _ _ ?_
    obtain ⟨e, he, hf⟩ := bindE hf
    obtain ⟨x', hx', hf⟩ := bindE hf
    refine W.seqK fun K5 hK5 => ?_
    have Jend : ∀ (ρ : Env) (w : World), ρ 0 = .map (some g) → ρ 3 = .pointer (some ⟨g3, 0, none⟩) → ρ 10 = .slice a2 u.Effects.length c2 → ρ 11 = .int .i64 (u.Effects.length : Int) → ρ 12 = .int .i64 i →
        St ok F w [vl (tSlice t_api_Effect) u.Effects (.slice a2 u.Effects.length c2), vl t_api_Update u (.agg [.int .i64 u.Client, .int .i64 u.Seq, .int .i64 u.Tag, .slice a u.Effects.length c].toArray)] [bldo FKf g x', blk g3 47 [.int .i64 u.Client, .int .i64 u.Seq, .int .i64 u.Tag, .slice a u.Effects.length c]] → K5 ρ w := by
      intro ρ w h0 h3 h10 h11 h12 hs
      refine hK5 _ _ ?_
      refine W.region ?_
      obtain ⟨j, ej, hf⟩ := letE hf
      refine WL.bin (v := .int .i64 j) h12 rfl (ib_as ej (ib_add _ _ _)) ?_
      refine WL.move (v := .int .i64 j) rfl ?_
      refine WL.nil ?_
      exact ⟨_, (Option.some.inj hf).symm, h0, h3, h10, h11, rfl, hs⟩
    unfold fold_eff at hx'
    obtain ⟨y', hy', hx'⟩ := bindE hx'
    have hx' := Option.some.inj hx'
    refine W.block ?_
    refine W.seqK fun K6 hK6 => ?_
    refine W.region ?_
    refine WL.indexAddr hs 0 rfl UN45 TI44 h10 h12 he (fun ad hs => ?_)
    refine WL.loadP hs 0 rfl TI44 (.inl rfl) rfl (fun v hs => ?_)
    obtain ⟨es, hl5, rfl⟩ := hs.aggv (n := 5) 0 rfl rfl rfl
    obtain rfl := open_api_Effect hs 0 rfl
    refine WL.alloc hs ZV44 (fun g5 w hs => ?_)
    refine WL.storeAll (vs := ecells e) hs 0 rfl TI44 rfl rfl rfl rfl (ones_of rfl) rfl (fun w hs => ?_)
    refine WL.nil ?_
    refine hK6 _ _ ?_
    have hs := (hs.front 1 rfl).pick [2, 3]
    have hs : St ok F w [vl (tSlice t_api_Effect) u.Effects (.slice a2 u.Effects.length c2), vl t_api_Update u (.agg [.int .i64 u.Client, .int .i64 u.Seq, .int .i64 u.Tag, .slice a u.Effects.length c].toArray)] [bldo FKf g x, blk g5 44 (ecells e), blk g3 47 [.int .i64 u.Client, .int .i64 u.Seq, .int .i64 u.Tag, .slice a u.Effects.length c]] := hs
    refine W.seqK fun K7 hK7 => ?_
    obtain ⟨fs, hfs⟩ := fold_with_at x e.Object
    have Jin : ∀ (C : List (BE fold_Field) → Prop) (ρ : Env) (w : World), ρ 0 = .map (some g) → ρ 3 = .pointer (some ⟨g3, 0, none⟩) → ρ 5 = .pointer (some ⟨g5, 0, none⟩) → ρ 10 = .slice a2 u.Effects.length c2 → ρ 11 = .int .i64 (u.Effects.length : Int) → ρ 12 = .int .i64 i →
        St ok F w [vl (tSlice t_api_Effect) u.Effects (.slice a2 u.Effects.length c2), vl t_api_Update u (.agg [.int .i64 u.Client, .int .i64 u.Seq, .int .i64 u.Tag, .slice a u.Effects.length c].toArray)] [bldc FKf C g (fold_with x e.Object), blk g5 44 (ecells e), blk g3 47 [.int .i64 u.Client, .int .i64 u.Seq, .int .i64 u.Tag, .slice a u.Effects.length c]] → K7 ρ w := by
      intro C ρ w h0 h3 h5 h10 h11 h12 hs
      refine hK7 _ _ ?_
      refine W.seqK fun K9 hK9 => ?_
      have core : ∀ (O : LObj) (y0 : fold_Field) (a3 : Option Addr) (n3 c3 g6 : Nat) (ρ : Env) (w : World), fold_at (fold_with x e.Object) e.Object e.Field = y0 → FinO g (fold_with x e.Object) e.Object e.Field fs O →
          ρ 0 = .map (some g) → ρ 3 = .pointer (some ⟨g3, 0, none⟩) → ρ 5 = .pointer (some ⟨g5, 0, none⟩) → ρ 6 = .pointer (some ⟨g6, 0, none⟩) → ρ 10 = .slice a2 u.Effects.length c2 → ρ 11 = .int .i64 (u.Effects.length : Int) → ρ 12 = .int .i64 i →
          St ok F w [vl (tSlice t_api_Effect) u.Effects (.slice a2 u.Effects.length c2), vl t_api_Update u (.agg [.int .i64 u.Client, .int .i64 u.Seq, .int .i64 u.Tag, .slice a u.Effects.length c].toArray)]
            [own tStr 9 (.slice a3 n3 c3) y0.Elems, O, blk g6 85 (fcells y0 (.slice a3 n3 c3)), blk g5 44 (ecells e), blk g3 47 [.int .i64 u.Client, .int .i64 u.Seq, .int .i64 u.Tag, .slice a u.Effects.length c]] → K9 ρ w := by
        intro O y0 a3 n3 c3 g6 ρ w hat hO h0 h3 h5 h6 h10 h11 h12 hs
        rw [hat] at hy'
        obtain ⟨y1, ey1⟩ : ∃ y1 : fold_Field, y1 = { y0 with Name := e.Field } := ⟨_, rfl⟩
        rw [← ey1] at hy'
        have eE : y0.Elems = y1.Elems := by rw [ey1]
        have eN : y1.Name = e.Field := by rw [ey1]
        have eS : setAt (fcells y0 (.slice a3 n3 c3)) 0 [bstr e.Field] = fcells y1 (.slice a3 n3 c3) := by rw [ey1]; rfl
        rw [eE] at hs
        refine hK9 _ _ ?_
        refine W.seqK fun K10 hK10 => ?_
        refine W.region ?_
        refine WL.fieldAddr (m := 2) h5 FA44_2 rfl ?_
        refine WL.load1 (v := bstr e.Field) hs 3 rfl TI9 rfl rfl ?_
        refine WL.fieldAddr (m := 0) h6 FA85_0 rfl ?_
        refine WL.store (vs := [bstr e.Field]) (cs' := fcells y1 (.slice a3 n3 c3)) hs 2 rfl TI9 rfl rfl rfl rfl (ones_of rfl) (Nat.le_of_ble_eq_true rfl) eS (fun w hs => ?_)
        refine WL.nil ?_
        refine hK10 _ _ ?_
        clear ey1 eE eS hat
        refine W.seqK fun K11 hK11 => ?_
        -- put back
        have Jset : ∀ (y' : fold_Field) (a4 : Option Addr) (n4 c4 : Nat) (ρ : Env) (w : World), fold_upd u e y1 = some y' → y'.Name = e.Field →
            ρ 0 = .map (some g) → ρ 3 = .pointer (some ⟨g3, 0, none⟩) → ρ 5 = .pointer (some ⟨g5, 0, none⟩) → ρ 6 = .pointer (some ⟨g6, 0, none⟩) → ρ 10 = .slice a2 u.Effects.length c2 → ρ 11 = .int .i64 (u.Effects.length : Int) → ρ 12 = .int .i64 i →
            St ok F w [vl (tSlice t_api_Effect) u.Effects (.slice a2 u.Effects.length c2), vl t_api_Update u (.agg [.int .i64 u.Client, .int .i64 u.Seq, .int .i64 u.Tag, .slice a u.Effects.length c].toArray)]
              [own tStr 9 (.slice a4 n4 c4) y'.Elems, O, blk g6 85 (fcells y' (.slice a4 n4 c4)), blk g5 44 (ecells e), blk g3 47 [.int .i64 u.Client, .int .i64 u.Seq, .int .i64 u.Tag, .slice a u.Effects.length c]] → K11 ρ w := by
          intro y2 a4 n4 c4 ρ w hup hn h0 h3 h5 h6 h10 h11 h12 hs
          rw [hup] at hy'
          have hy' := Option.some.inj hy'
          subst hy'
          refine hK11 _ _ ?_
          refine W.region ?_
          refine WL.move (v := .map (some g)) h0 ?_
          refine WL.fieldAddr (m := 1) h5 FA44_1 rfl ?_
          refine WL.load1 (v := bstr e.Object) hs 3 rfl TI9 rfl rfl ?_
          have hones : ∀ u ∈ FKf.fc y2 (.slice a4 n4 c4), u.oneCell' = true := ones_of rfl
          rcases hO with ⟨h, rfl, hc1, hk, hfy, hf1, hb1⟩ | ⟨C, rfl, hnone⟩
          · have hs := hs.front 1 rfl
            refine WL.holeLook FKf (h := h) hs (kkStr UN9) UN64 rfl (by rw [hk]; rfl) ZR81 (by rw [hk]; exact hb1) ?_
            refine WL.fieldAddr (m := 2) h5 FA44_2 rfl ?_
            refine WL.load1 (v := bstr e.Field) hs 3 rfl TI9 rfl rfl ?_
            refine WL.loadN (vs := fcells y2 (.slice a4 n4 c4)) hs 2 rfl TI85 h6 rfl rfl ?_
            have hs := hs.front 1 rfl
            refine WL.bldGive (K := FKf) (h := h) (y' := y2) (v' := .slice a4 n4 c4) hs (kkStr UN9) UN81 rfl (by show _ = bstr h.y.Name; rw [← hfy]; rfl) rfl (hn.trans hfy) rfl hones (by rw [hk]; exact hb1) (fun q hq => by show h.y.Name ≠ _; rw [← hfy]; exact hf1 q hq) (fun w hs => ?_)
            refine WL.nil ?_
            have hcont := hole_cont (K := FKf) (h := h) (y' := y2) (v' := .slice a4 n4 c4) hc1 (fs := fs) (by rw [hk]; exact hfs) (hn.trans hfy) (by rw [hk]; exact hb1) (fun q hq => by show h.y.Name ≠ _; rw [← hfy]; exact hf1 q hq)
            rw [hcont] at hs
            refine Jend _ _ h0 h3 h10 h11 h12 ?_
            rw [← hx']
            have e1 : fold_set (fold_with x e.Object) e.Object y2 = mset (fold_with x e.Object) h.k (fput FKf.nm y2 fs) := by
              unfold fold_set
              rw [hfs, hk]
              rfl
            rw [e1]
            exact (hs.mask [true, false, false, true]).bldWeak
          · have hs := hs.front 1 rfl
            refine WL.bldLook FKf (k := e.Object) hs (kkStr UN9) UN64 rfl rfl ZR81 (fun hno hs => ?_) (fun fs2 gi hfs2 hs => ?_)
            · rw [hfs] at hno; cases hno
            · rw [hfs] at hfs2
              have hfs2 := Option.some.inj hfs2
              subst hfs2
              refine WL.fieldAddr (m := 2) h5 FA44_2 rfl ?_
              refine WL.load1 (v := bstr e.Field) hs 3 rfl TI9 rfl rfl ?_
              refine WL.loadN (vs := fcells y2 (.slice a4 n4 c4)) hs 2 rfl TI85 h6 rfl rfl ?_
              have hs := hs.front 1 rfl
              refine WL.bldAdd (K := FKf) (k := e.Object) (y' := y2) (v' := .slice a4 n4 c4) hs (kkStr UN9) UN81 rfl (by show _ = bstr y2.Name; rw [hn]; rfl) rfl rfl hones hfs (by rw [show (fun q => FKf.nm y2 == FKf.nm q) = (fun q : fold_Field => e.Field == q.Name) from funext fun q => by show (y2.Name == q.Name) = _; rw [hn]]; exact hnone) (fun w hs => ?_)
              refine WL.nil ?_
              refine Jend _ _ h0 h3 h10 h11 h12 ?_
              rw [← hx']
              have e1 : fold_set (fold_with x e.Object) e.Object y2 = mset (fold_with x e.Object) e.Object (fput FKf.nm y2 fs) := by
                unfold fold_set
                rw [hfs]
                rfl
              rw [e1]
              exact (hs.mask [true, false, false, true]).bldWeak
        refine W.seqK fun K12 hK12 => ?_
        refine W.region ?_
        refine WL.fieldAddr (m := 0) h5 FA44_0 rfl ?_
        refine WL.load1 (v := .int .i64 e.Kind) hs 3 rfl TI3 rfl rfl ?_
        refine WL.nil ?_
        refine hK12 _ _ ?_
        refine W.block ?_
        have hup := hy'
        unfold fold_upd at hup
        refine W.seqK fun K13 hK13 => ?_
        refine W.region ?_
        refine WL.bin (v := .bool (e.Kind == 1)) rfl rfl (ib_eql _ _ _) ?_
        refine WL.assign (v := .bool (e.Kind == 1)) rfl ?_
        refine WL.nil ?_
        refine hK13 _ _ ?_
        rcases iteE hup with ⟨hk1, hup⟩ | ⟨hk1, hup⟩
        · refine W.cond_true (bool_tr rfl hk1) ?_
          obtain ⟨b, hb, hup⟩ := bindE hup
          refine W.seqK fun K14 hK14 => ?_
          refine W.region ?_
          refine WL.loadAll hs 4 rfl TI47 h3 rfl ?_
          refine WL.fieldAddr (m := 1) h6 FA85_1 rfl ?_
          refine WL.loadN (vs := rcells y1.Register) hs 2 rfl TI83 rfl rfl rfl ?_
          refine WL.call (vs := [.agg [.int .i64 u.Client, .int .i64 u.Seq, .int .i64 u.Tag, .slice a u.Effects.length c].toArray, .agg (rcells y1.Register).toArray]) hs FN37 ⟨rfl, rfl, trivial⟩ (fun ok hA => fold_newer.calls (x1 := u) (x5 := y1.Register) hb (hA.get 1 rfl) (V_agg (regR ok _ _) rfl)) ?_
          rintro _ w hs
          refine WL.nil ?_
          refine hK14 _ _ ?_
          cases b with
          | true =>
            refine W.cond_true rfl ?_
            refine W.region ?_
            refine WL.fieldAddr (m := 2) h3 FA47_2 rfl ?_
            refine WL.load1 (v := .int .i64 u.Tag) hs 4 rfl TI3 rfl rfl ?_
            refine WL.fieldAddr (m := 0) h3 FA47_0 rfl ?_
            refine WL.load1 (v := .int .i64 u.Client) hs 4 rfl TI3 rfl rfl ?_
            refine WL.fieldAddr (m := 1) h3 FA47_1 rfl ?_
            refine WL.load1 (v := .int .i64 u.Seq) hs 4 rfl TI3 rfl rfl ?_
            refine WL.fieldAddr (m := 3) h5 FA44_3 rfl ?_
            refine WL.load1 (v := .int .i64 e.N) hs 3 rfl TI2 rfl rfl ?_
            refine WL.fieldAddr (m := 4) h5 FA44_4 rfl ?_
            refine WL.load1 (v := bstr e.S) hs 3 rfl TI9 rfl rfl ?_
            refine WL.build (vs := [(0, .bool true), (1, .int .i64 u.Tag), (2, .int .i64 u.Client), (3, .int .i64 u.Seq), (4, .int .i64 e.N), (5, bstr e.S)]) (cs := rcells ⟨true, u.Tag, u.Client, u.Seq, e.N, e.S⟩) ⟨⟨rfl, rfl⟩, ⟨rfl, rfl⟩, ⟨rfl, rfl⟩, ⟨rfl, rfl⟩, ⟨rfl, rfl⟩, ⟨rfl, rfl⟩, trivial⟩ (bld PL83 rfl) ?_
            refine WL.fieldAddr (m := 1) h6 FA85_1 rfl ?_
            refine WL.store (vs := rcells ⟨true, u.Tag, u.Client, u.Seq, e.N, e.S⟩) (cs' := fcells { y1 with Register := ⟨true, u.Tag, u.Client, u.Seq, e.N, e.S⟩ } (.slice a3 n3 c3)) hs 2 rfl TI83 rfl rfl rfl rfl (ones_of rfl) (Nat.le_of_ble_eq_true rfl) rfl (fun w hs => ?_)
            refine WL.nil ?_
            have hup := Option.some.inj hup
            subst hup
            exact Jset _ a3 n3 c3 _ _ hy' eN h0 h3 h5 h6 h10 h11 h12 hs
          | false =>
            refine W.cond_false rfl ?_
            refine W.skip ?_
            have hup := Option.some.inj hup
            subst hup
            exact Jset _ a3 n3 c3 _ _ hy' eN h0 h3 h5 h6 h10 h11 h12 hs
        · refine W.cond_false (bool_tr rfl hk1) ?_
          refine W.seqK fun K15 hK15 => ?_
          refine W.region ?_
          refine WL.bin (v := .bool (e.Kind == 2)) rfl rfl (ib_eql _ _ _) ?_
          refine WL.assign (v := .bool (e.Kind == 2)) rfl ?_
          refine WL.nil ?_
          refine hK15 _ _ ?_
          rcases iteE hup with ⟨hk2, hup⟩ | ⟨hk2, hup⟩
          · refine W.cond_true (bool_tr rfl hk2) ?_
            refine W.seqK fun K16 hK16 => ?_
            have J16 : ∀ (ρ : Env) (w : World), some { y1 with HasMax := true, Max := e.N } = some y' → ρ 66 = .bool true → ρ 0 = .map (some g) → ρ 3 = .pointer (some ⟨g3, 0, none⟩) → ρ 5 = .pointer (some ⟨g5, 0, none⟩) → ρ 6 = .pointer (some ⟨g6, 0, none⟩) → ρ 10 = .slice a2 u.Effects.length c2 → ρ 11 = .int .i64 (u.Effects.length : Int) → ρ 12 = .int .i64 i →
                St ok F w [vl (tSlice t_api_Effect) u.Effects (.slice a2 u.Effects.length c2), vl t_api_Update u (.agg [.int .i64 u.Client, .int .i64 u.Seq, .int .i64 u.Tag, .slice a u.Effects.length c].toArray)] [own tStr 9 (.slice a3 n3 c3) y1.Elems, O, blk g6 85 (fcells y1 (.slice a3 n3 c3)), blk g5 44 (ecells e), blk g3 47 [.int .i64 u.Client, .int .i64 u.Seq, .int .i64 u.Tag, .slice a u.Effects.length c]] → K16 ρ w := by
              intro ρ w hup h66 h0 h3 h5 h6 h10 h11 h12 hs
              refine hK16 _ _ ?_
              refine W.cond_true h66 ?_
              have hs := hs.front 2 rfl
              refine W.any (by kernel_rfl) 4 2 [true, true, true, true, false, false] rfl rfl (poAt [pv (.pointer (some ⟨g5, 3, none⟩)), pv (.int .i64 e.N), pv (.pointer (some ⟨g6, 7, none⟩)), pw (blk g6 85 (fcells y1 (.slice a3 n3 c3))) (blk g6 85 (fcells { y1 with HasMax := true } (.slice a3 n3 c3)))])
                (Λ := [own tStr 9 (.slice a3 n3 c3) y1.Elems, O, blk g5 44 (ecells e), blk g3 47 [.int .i64 u.Client, .int .i64 u.Seq, .int .i64 u.Tag, .slice a u.Effects.length c]]) hs (by kernel_rfl) (by kernel_rfl) (by kernel_rfl) ⟨⟨⟨⟨trivial, ?_⟩, ?_⟩, ?_⟩, ?_⟩ ?_
              · intro ρ w Γx Λx hs hu hp
                refine WL.fieldAddr (m := 3) ((hu 5 rfl).trans h5) FA44_3 rfl ?_
                exact WL.nil ⟨rfl, _, rfl, rfl, hs.cutG 0 0⟩
              · intro ρ w Γx Λx hs hu hp
                have e1 : ρ 67 = .pointer (some ⟨g5, 3, none⟩) := (hp 0 rfl).1
                refine WL.load1 (v := .int .i64 e.N) hs (Λx.length + 2) (getApp rfl) TI2 e1 rfl ?_
                exact WL.nil ⟨rfl, _, rfl, rfl, hs.cutG 0 0⟩
              · intro ρ w Γx Λx hs hu hp
                refine WL.fieldAddr (m := 7) ((hu 6 rfl).trans h6) FA85_2 rfl ?_
                exact WL.nil ⟨rfl, _, rfl, rfl, hs.cutG 0 0⟩
              · intro ρ w Γx Λx hs hu hp
                have e1 : ρ 69 = .pointer (some ⟨g6, 7, none⟩) := (hp 2 rfl).1
                refine WL.store (vs := [.bool true]) (cs' := fcells { y1 with HasMax := true } (.slice a3 n3 c3)) hs (Λx.length + 0) (getApp rfl) TI4 e1 rfl rfl rfl (ones_of rfl) (Nat.le_of_ble_eq_true rfl) rfl (fun w hs => ?_)
                exact WL.nil ⟨rfl, _, rfl, trivial, hs.backP.cutG 0 0⟩
              · intro ρ w hs hu hp
                obtain ⟨⟨⟨⟨_, hp0⟩, hp1⟩, hp2⟩, hp3⟩ := hp
                have hs : St ok F w [vl (tSlice t_api_Effect) u.Effects (.slice a2 u.Effects.length c2), vl t_api_Update u (.agg [.int .i64 u.Client, .int .i64 u.Seq, .int .i64 u.Tag, .slice a u.Effects.length c].toArray)] [blk g6 85 (fcells { y1 with HasMax := true } (.slice a3 n3 c3)), own tStr 9 (.slice a3 n3 c3) y1.Elems, O, blk g5 44 (ecells e), blk g3 47 [.int .i64 u.Client, .int .i64 u.Seq, .int .i64 u.Tag, .slice a u.Effects.length c]] := hs
                have e1 : ρ 68 = .int .i64 e.N := hp1
                refine WA.step [4] (by kernel_rfl) (by simp) ⟨?_, trivial⟩
                refine WL.fieldAddr (m := 8) ((hu 6 rfl).trans h6) FA85_3 rfl ?_
                refine WL.nil ⟨rfl, _, rfl, ?_⟩
                refine WA.step [5] (by kernel_rfl) (by simp) ⟨?_, trivial⟩
                refine WL.store (vs := [.int .i64 e.N]) (cs' := fcells { y1 with HasMax := true, Max := e.N } (.slice a3 n3 c3)) hs 0 rfl TI2 rfl e1 rfl rfl (ones_of rfl) (Nat.le_of_ble_eq_true rfl) rfl (fun w hs => ?_)
                refine WL.nil ⟨rfl, _, rfl, ?_⟩
                refine WA.done (by kernel_rfl) ?_
                have hup := Option.some.inj hup
                subst hup
                exact Jset _ a3 n3 c3 _ _ hy' eN ((hu 0 rfl).trans h0) ((hu 3 rfl).trans h3) ((hu 5 rfl).trans h5) ((hu 6 rfl).trans h6) ((hu 10 rfl).trans h10) ((hu 11 rfl).trans h11) ((hu 12 rfl).trans h12) ((hs.front 2 rfl).front 2 rfl)
            refine W.region ?_
            refine WL.fieldAddr (m := 7) h6 FA85_2 rfl ?_
            refine WL.load1 (v := .bool y1.HasMax) hs 2 rfl TI4 rfl rfl ?_
            refine WL.not rfl ?_
            refine WL.move (v := .bool (!y1.HasMax)) rfl ?_
            rcases iteE hup with ⟨hm, hup⟩ | ⟨hm, hup⟩
            · refine WL.pass ((wanted_of rfl rfl (bool_tr rfl hm)).trans rfl) rfl ?_
              refine WL.pass ((wanted_of rfl rfl (bool_tr rfl hm)).trans rfl) rfl ?_
              refine WL.pass ((wanted_of rfl rfl (bool_tr rfl hm)).trans rfl) rfl ?_
              refine WL.pass ((wanted_of rfl rfl (bool_tr rfl hm)).trans rfl) rfl ?_
              refine WL.pass ((wanted_of rfl rfl (bool_tr rfl hm)).trans rfl) rfl ?_
              refine WL.pickT (v := .bool true) (bool_tr rfl hm) rfl ?_
              refine WL.nil ?_
              exact J16 _ _ hup rfl h0 h3 h5 h6 h10 h11 h12 hs
            · refine WL.fieldAddr (m := 8) h6 FA85_3 rfl ?_ (hg := (wanted_of rfl rfl (bool_tr rfl hm)).trans rfl)
              refine WL.load1 (v := .int .i64 y1.Max) hs 2 rfl TI2 rfl rfl ?_ (hg := (wanted_of rfl rfl (bool_tr rfl hm)).trans rfl)
              refine WL.fieldAddr (m := 3) h5 FA44_3 rfl ?_ (hg := (wanted_of rfl rfl (bool_tr rfl hm)).trans rfl)
              refine WL.load1 (v := .int .i64 e.N) hs 3 rfl TI2 rfl rfl ?_ (hg := (wanted_of rfl rfl (bool_tr rfl hm)).trans rfl)
              refine WL.bin (v := .bool (decide (y1.Max < e.N))) rfl rfl (ib_lss _ _ _) ?_ (hg := (wanted_of rfl rfl (bool_tr rfl hm)).trans rfl)
              refine WL.pickF (v := .bool (decide (y1.Max < e.N))) (bool_tr rfl hm) rfl ?_
              refine WL.nil ?_
              rcases iteE hup with ⟨hm2, hup⟩ | ⟨hm2, hup⟩
              · exact J16 _ _ hup (bool_tr rfl hm2) h0 h3 h5 h6 h10 h11 h12 hs
              · refine hK16 _ _ ?_
                refine W.cond_false (bool_tr rfl hm2) ?_
                refine W.skip ?_
                have hup := Option.some.inj hup
                subst hup
                exact Jset _ a3 n3 c3 _ _ hy' eN h0 h3 h5 h6 h10 h11 h12 hs
          · refine W.cond_false (bool_tr rfl hk2) ?_
            refine W.seqK fun K17 hK17 => ?_
            refine W.region ?_
            refine WL.bin (v := .bool (e.Kind == 3)) rfl rfl (ib_eql _ _ _) ?_
            refine WL.assign (v := .bool (e.Kind == 3)) rfl ?_
            refine WL.nil ?_
            refine hK17 _ _ ?_
            rcases iteE hup with ⟨hk3, hup⟩ | ⟨hk3, hup⟩
            · refine W.cond_true (bool_tr rfl hk3) ?_
              refine W.region ?_
              refine WL.fieldAddr (m := 9) h6 FA85_4 rfl ?_
              refine WL.load1 (v := .int .i64 y1.Sum) hs 2 rfl TI2 rfl rfl ?_
              refine WL.fieldAddr (m := 3) h5 FA44_3 rfl ?_
              refine WL.load1 (v := .int .i64 e.N) hs 3 rfl TI2 rfl rfl ?_
              refine WL.bin (v := .int .i64 (IntKind.i64.wrap (y1.Sum + e.N))) rfl rfl (ib_add _ _ _) ?_
              refine WL.fieldAddr (m := 9) h6 FA85_4 rfl ?_
              refine WL.store (vs := [.int .i64 (IntKind.i64.wrap (y1.Sum + e.N))]) (cs' := fcells { y1 with Sum := IntKind.i64.wrap (y1.Sum + e.N) } (.slice a3 n3 c3)) hs 2 rfl TI2 rfl rfl rfl rfl (ones_of rfl) (Nat.le_of_ble_eq_true rfl) rfl (fun w hs => ?_)
              refine WL.nil ?_
              have hup := Option.some.inj hup
              subst hup
              exact Jset _ a3 n3 c3 _ _ hy' eN h0 h3 h5 h6 h10 h11 h12 hs
            · refine W.cond_false (bool_tr rfl hk3) ?_
              refine W.seqK fun K18 hK18 => ?_
              refine W.region ?_
              refine WL.bin (v := .bool (e.Kind == 4)) rfl rfl (ib_eql _ _ _) ?_
              refine WL.assign (v := .bool (e.Kind == 4)) rfl ?_
              refine WL.nil ?_
              refine hK18 _ _ ?_
              rcases iteE hup with ⟨hk4, hup⟩ | ⟨hk4, hup⟩
              · refine W.cond_true (bool_tr rfl hk4) ?_
                obtain ⟨l, hlO, hup⟩ := bindE hup
                unfold insO at hlO
                obtain ⟨⟨hasc, hlen⟩, hlO⟩ := guardE hlO
                have hlO := Option.some.inj hlO
                have hup := Option.some.inj hup
                subst hup
                have hns := insS_pos y1.Elems e.S
                refine W.seqK fun K19 hK19 => ?_
                refine W.region ?_
                refine WL.fieldAddr (m := 10) h6 FA85_5 rfl ?_
                refine WL.load1 (v := .slice a3 n3 c3) hs 2 rfl TI32 rfl rfl ?_
                refine WL.fieldAddr (m := 4) h5 FA44_4 rfl ?_
                refine WL.load1 (v := bstr e.S) hs 3 rfl TI9 rfl rfl ?_
                refine WL.callR (vs := [.slice a3 n3 c3, bstr e.S]) (R := fun v w' => v = .tuple ([.int .i64 (posS y1.Elems e.S : Nat), .bool (decide (posS y1.Elems e.S < y1.Elems.length ∧ y1.Elems.getD (posS y1.Elems e.S) e.S = e.S))] : List Value).toArray ∧ St ok F w' [vl (tSlice t_api_Effect) u.Effects (.slice a2 u.Effects.length c2), vl t_api_Update u (.agg [.int .i64 u.Client, .int .i64 u.Seq, .int .i64 u.Tag, .slice a u.Effects.length c].toArray)] [own tStr 9 (.slice a3 n3 c3) y1.Elems, O, blk g6 85 (fcells y1 (.slice a3 n3 c3)), blk g5 44 (ecells e), blk g3 47 [.int .i64 u.Client, .int .i64 u.Seq, .int .i64 u.Tag, .slice a u.Effects.length c]])
                  FN38 ⟨rfl, rfl, trivial⟩ ((bsearch_own lay_bs (s := e.S) hs 0 rfl hasc (by omega)).mono (by rintro e' w' ⟨rfl, q, rfl⟩; exact ⟨_, rfl, rfl, hs.drewN q⟩)) ?_
                rintro _ w ⟨rfl, hs⟩
                refine WL.move rfl ?_
                refine WL.extract rfl rfl ?_
                refine WL.extract rfl rfl ?_
                refine WL.assign (v := .int .i64 (posS y1.Elems e.S : Nat)) rfl ?_
                refine WL.assign (v := .bool (decide (posS y1.Elems e.S < y1.Elems.length ∧ y1.Elems.getD (posS y1.Elems e.S) e.S = e.S))) rfl ?_
                refine WL.nil ?_
                refine hK19 _ _ ?_
                refine W.seqK fun K20 hK20 => ?_
                refine W.region ?_
                refine WL.move (v := .bool (decide (posS y1.Elems e.S < y1.Elems.length ∧ y1.Elems.getD (posS y1.Elems e.S) e.S = e.S))) rfl ?_
                refine WL.not rfl ?_
                refine WL.nil ?_
                refine hK20 _ _ ?_
                by_cases hfd : posS y1.Elems e.S < y1.Elems.length ∧ y1.Elems.getD (posS y1.Elems e.S) e.S = e.S
                · rw [if_pos hfd, hlO] at hns
                  refine W.cond_false (bool_tr rfl (by rw [decide_eq_true hfd]; rfl)) ?_
                  refine W.skip ?_
                  exact Jset _ a3 n3 c3 _ _ hy' eN h0 h3 h5 h6 h10 h11 h12 (by rw [hns]; exact hs)
                · rw [if_neg hfd, hlO] at hns
                  refine W.cond_true (bool_tr rfl (by rw [decide_eq_false hfd]; rfl)) ?_
                  refine W.region ?_
                  refine WL.fieldAddr (m := 10) h6 FA85_5 rfl ?_
                  refine WL.load1 (v := .slice a3 n3 c3) hs 2 rfl TI32 rfl rfl ?_
                  refine WL.move (v := .int .i64 (posS y1.Elems e.S : Nat)) rfl ?_
                  refine WL.fieldAddr (m := 4) h5 FA44_4 rfl ?_
                  refine WL.load1 (v := bstr e.S) hs 3 rfl TI9 rfl rfl ?_
                  refine WL.buildSlice (n := 1) (vs := [(0, bstr e.S)]) (cs := [bstr e.S]) hs ⟨⟨rfl, rfl⟩, trivial⟩ (bls PS32 (by decide) rfl) (fun gl w hs => ?_)
                  refine WL.callR (vs := [.slice a3 n3 c3, .int .i64 (posS y1.Elems e.S : Nat), .slice (some ⟨gl, 0, none⟩) 1 1]) (R := fun v w' => St ok F w' [vl (tSlice t_api_Effect) u.Effects (.slice a2 u.Effects.length c2), vl t_api_Update u (.agg [.int .i64 u.Client, .int .i64 u.Seq, .int .i64 u.Tag, .slice a u.Effects.length c].toArray)] [own tStr 9 v l, O, blk g6 85 (fcells y1 (.slice a3 n3 c3)), blk g5 44 (ecells e), blk g3 47 [.int .i64 u.Client, .int .i64 u.Seq, .int .i64 u.Tag, .slice a u.Effects.length c]])
                    FN39 ⟨rfl, rfl, rfl, trivial⟩ ((insert_own lay_ins rfl (s := e.S) (k := posS y1.Elems e.S) hs 0 rfl (posS_le _ _) (by omega)).mono (by rintro e' w' ⟨v', rfl, hs'⟩; refine ⟨v', rfl, ?_⟩; rw [hns]; exact hs')) ?_
                  rintro v w hs
                  obtain ⟨a4, n4, c4, rfl⟩ := hs.ownv3 0 rfl
                  refine WL.fieldAddr (m := 10) h6 FA85_5 rfl ?_
                  refine WL.store (vs := [.slice a4 n4 c4]) (cs' := fcells { y1 with Elems := l } (.slice a4 n4 c4)) hs 2 rfl TI32 rfl rfl rfl rfl (ones_of rfl) (Nat.le_of_ble_eq_true rfl) rfl (fun w hs => ?_)
                  refine WL.nil ?_
                  exact Jset _ a4 n4 c4 _ _ hy' eN h0 h3 h5 h6 h10 h11 h12 hs
              · refine W.cond_false (bool_tr rfl hk4) ?_
                refine W.seqK fun K21 hK21 => ?_
                refine W.region ?_
                refine WL.bin (v := .bool (e.Kind == 5)) rfl rfl (ib_eql _ _ _) ?_
                refine WL.assign (v := .bool (e.Kind == 5)) rfl ?_
                refine WL.nil ?_
                refine hK21 _ _ ?_
                rcases iteE hup with ⟨hk5, hup⟩ | ⟨hk5, hup⟩
                · refine W.cond_true (bool_tr rfl hk5) ?_
                  refine W.region ?_
                  refine WL.fieldAddr (m := 11) h6 FA85_6 rfl ?_
                  refine WL.store (vs := [.bool true]) (cs' := fcells { y1 with Flag := true } (.slice a3 n3 c3)) hs 2 rfl TI4 rfl rfl rfl rfl (ones_of rfl) (Nat.le_of_ble_eq_true rfl) rfl (fun w hs => ?_)
                  refine WL.nil ?_
                  have hup := Option.some.inj hup
                  subst hup
                  exact Jset _ a3 n3 c3 _ _ hy' eN h0 h3 h5 h6 h10 h11 h12 hs
                · refine W.cond_false (bool_tr rfl hk5) ?_
                  refine W.skip ?_
                  have hup := Option.some.inj hup
                  subst hup
                  exact Jset _ a3 n3 c3 _ _ hy' eN h0 h3 h5 h6 h10 h11 h12 hs
      refine W.region ?_
      refine WL.move (v := .map (some g)) h0 ?_
      refine WL.fieldAddr (m := 1) h5 FA44_1 rfl ?_
      refine WL.load1 (v := bstr e.Object) hs 1 rfl TI9 rfl rfl ?_
      refine WL.bldLook FKf (k := e.Object) hs (kkStr UN9) UN64 rfl rfl ZR81 (fun hno hs => ?_) (fun fs2 gi hfs2 hs => ?_)
      · rw [hfs] at hno; cases hno
      · rw [hfs] at hfs2
        have hfs2 := Option.some.inj hfs2
        subst hfs2
        refine WL.fieldAddr (m := 2) h5 FA44_2 rfl ?_
        refine WL.load1 (v := bstr e.Field) hs 1 rfl TI9 rfl rfl ?_
        refine WL.bldTake (K := FKf) (k := e.Object) (f := e.Field) (z := fcells fold_zero (.slice none 0 0)) hs (kkStr UN9) UN81 rfl rfl ZR85 rfl (ones_of rfl) hfs (fun hn hs => ?_) (fun h hy hx hk hgi hfe hf1 hb1 hs => ?_)
        · have hs := hs.ownNil tStr 9
          refine WL.alloc hs ZV85 (fun g6 w hs => ?_)
          refine WL.storeAll (vs := fcells fold_zero (.slice none 0 0)) hs 0 rfl TI85 rfl rfl rfl rfl (ones_of rfl) rfl (fun w hs => ?_)
          refine WL.nil ?_
          refine core _ fold_zero none 0 0 g6 _ _ ?_ (.inr ⟨_, rfl, hn⟩) h0 h3 h5 rfl h10 h11 h12 ((hs.front 2 rfl).front 2 rfl)
          unfold fold_at
          rw [hfs]
          show (fs.find? _).getD _ = _
          have hn' : fs.find? (fun q => e.Field == q.Name) = none := hn
          rw [hn']
          rfl
        · obtain ⟨a3, n3, c3, hv⟩ := hs.ownv3 0 rfl
          rw [hv] at hs ⊢
          refine WL.alloc hs ZV85 (fun g6 w hs => ?_)
          refine WL.storeAll (vs := fcells h.y (.slice a3 n3 c3)) hs 0 rfl TI85 rfl rfl rfl rfl (ones_of rfl) rfl (fun w hs => ?_)
          refine WL.nil ?_
          refine core _ h.y a3 n3 c3 g6 _ _ ?_ (.inl ⟨h, rfl, hx, hk, hfe, hf1, hb1⟩) h0 h3 h5 rfl h10 h11 h12 ((hs.front 2 rfl).front 2 rfl)
          unfold fold_at
          rw [hfs]
          show (fs.find? _).getD _ = _
          have hy2 : fs.find? (fun q => e.Field == q.Name) = some h.y := hy
          rw [hy2]
          rfl
    refine W.seqK fun K8 hK8 => ?_
    refine W.region ?_
    refine WL.move (v := .map (some g)) h0 ?_
    refine WL.fieldAddr (m := 1) rfl FA44_1 rfl ?_
    refine WL.load1 (v := bstr e.Object) hs 1 rfl TI9 rfl rfl ?_
    refine WL.bldLook FKf (k := e.Object) hs (kkStr UN9) UN64 rfl rfl ZR81 (fun hno hs => ?_) (fun fs2 gi hfs2 hs => ?_)
    · refine WL.nilEqM UN81 rfl ?_
      refine WL.nil ?_
      refine hK8 _ _ ?_
      refine W.cond_true rfl ?_
      refine W.region ?_
      refine WL.move (v := .map (some g)) h0 ?_
      refine WL.fieldAddr (m := 1) rfl FA44_1 rfl ?_
      refine WL.load1 (v := bstr e.Object) hs 1 rfl TI9 rfl rfl ?_
      refine WL.makeMap bstr (tRaw FKf.n) hs (fun gi w hs => ?_)
      refine WL.bldPut (K := FKf) (k := e.Object) hs (kkStr UN9) UN64 rfl rfl rfl hno (fun w hs => ?_)
      refine WL.nil ?_
      refine Jin (At e.Object gi) _ _ h0 h3 rfl h10 h11 h12 ?_
      have e1 : fold_with x e.Object = x ++ [(e.Object, [])] := by
        unfold fold_with
        rw [hno]
        rfl
      rw [e1]
      exact hs
    · refine WL.nilEqM UN81 rfl ?_
      refine WL.nil ?_
      refine hK8 _ _ ?_
      refine W.cond_false rfl ?_
      refine W.skip ?_
      refine Jin (At e.Object gi) _ _ h0 h3 rfl h10 h11 h12 ?_
      have e1 : fold_with x e.Object = x := by
        unfold fold_with
        rw [hfs2]
        rfl
      rw [e1]
      exact hs
  · refine W.cond_false (bool_tr rfl hc) ?_
    refine W.exit ?_
    have hr := Option.some.inj hf; subst hr
    have hr := hbb _ rfl; subst hr
    exact ⟨_, resOk_none rfl, (), rfl, (hs.mask [true]).pick []⟩
theorem fold_load.calls {ok : Nat → Prop} {w0 : World} {t : fold_Store} {vt : Value} {r : fold_B} (hf : fold_load t = some r) (i0 : (vl t_fold_Store t vt).holds ok w0) :
    Calls Try.prog 27 #[vt] w0 fun e w' => ∃ v, e = .returned v ∧ ∃ g : Nat, v = .map (some g) ∧ St ok (bz w0) w' [] [bldo FKf g r] := by
  unfold fold_load at hf
  have hs : St ok (bz w0) w0 [vl t_fold_Store t vt] [] := St.init (All.cons i0 All.nil)
  clear i0
  obtain ⟨cs, hl, rfl⟩ := hs.aggv (n := 1) 0 rfl rfl rfl
  refine calls_of_W (fn := Try.f27) (N := 40) Try.func27 rfl Try.ntmps27 rfl ?_
  refine W.seqK fun K1 hK1 => ?_
  refine W.region ?_
  refine WL.box (vs := cs) hs rfl rfl (fun g1 w hs => ?_)
  refine WL.assign (v := .map none) rfl ?_
  refine WL.nil ?_
  refine hK1 _ _ ?_
  refine W.seqK fun K2 hK2 => ?_
  refine W.region ?_
  refine WL.makeMap bstr tCell hs (fun g w hs => ?_)
  refine WL.assign (v := .map (some g)) rfl ?_
  refine WL.nil ?_
  refine hK2 _ _ ?_
  have hs := St.bldClose (K := FKf) (g := g) (b := []) (C := fun _ => True) hs trivial rfl
  refine W.seqK fun K3 hK3 => ?_
  have Jret : ∀ (ρ : Env) (w : World), ρ 3 = .map (some g) → St ok (bz w0) w [vl (tSlice t_fold_Object) t.Objects (.slice none 0 0)] [bldo FKf g r] ∨ St ok (bz w0) w [] [bldo FKf g r] → K3 ρ w := by
    intro ρ w h3 hs
    have hs : St ok (bz w0) w [] [bldo FKf g r] := hs.elim (fun h => h.pick []) id
    refine hK3 _ _ ?_
    refine W.seqK fun K4 hK4 => ?_
    refine W.region ?_
    refine WL.move (v := .map (some g)) h3 ?_
    refine WL.assign (v := .map (some g)) rfl ?_
    refine WL.nil ?_
    refine hK4 _ _ ?_
    refine W.ret ?_
    exact ⟨_, resOk_one rfl rfl, g, rfl, hs⟩
  refine W.seqK fun K4 hK4 => ?_
  refine W.region ?_
  refine WL.fieldAddr (m := 0) rfl FA41_0 rfl ?_
  refine WL.loadF (z := t.Objects) F_fold_Store_Objects hs 1 rfl 0 rfl rfl TI39 (.inr rfl) rfl rfl (fun v hs => ?_)
  obtain ⟨a2, c2, rfl⟩ := hs.slice 0 rfl
  refine WL.len (v := .slice a2 t.Objects.length c2) rfl (len_slice UN39) ?_
  refine WL.move (v := .int .i64 0) rfl ?_
  refine WL.nil ?_
  refine hK4 _ _ ?_
  refine W.block ?_
  refine W.loop (σ := Int × fold_B) hf (fun s ρ w => match s with | (i, x) => ρ 3 = .map (some g) ∧ ρ 11 = .slice a2 t.Objects.length c2 ∧ ρ 12 = .int .i64 (t.Objects.length : Int) ∧ ρ 13 = .int .i64 i ∧ St ok (bz w0) w [vl (tSlice t_fold_Object) t.Objects (.slice a2 t.Objects.length c2)] [bldo FKf g x]) ⟨rfl, rfl, rfl, rfl, (hs.mask [true]).pick [0]⟩ ?_
  intro s ρ w o hI hf hbb
  obtain ⟨i, x⟩ := s
  obtain ⟨h3, h11, h12, h13, hs⟩ := hI
  unfold fold_load.l2 at hf
  refine W.seqK fun K5 hK5 => ?_
  refine W.region ?_
  refine WL.bin (v := .bool (decide (i < (t.Objects.length : Int)))) h13 h12 (ib_lss _ _ _) ?_
  refine WL.nil ?_
  refine hK5 _ _ ?_
  refine W.seqK fun K6 hK6 => ?_
  rcases iteE hf with ⟨hc, hf⟩ | ⟨hc, hf⟩
  · refine W.cond_true (bool_tr rfl hc) ?_
    refine W.skip ?_
    refine hK6 _ _ ?_
    obtain ⟨ob, hob, hf⟩ := bindE hf
    obtain ⟨fs, hfs, hf⟩ := bindE hf
    refine W.seqK fun K7 hK7 => ?_
    have Jend : ∀ (ρ : Env) (w : World), ρ 3 = .map (some g) → ρ 11 = .slice a2 t.Objects.length c2 → ρ 12 = .int .i64 (t.Objects.length : Int) → ρ 13 = .int .i64 i → St ok (bz w0) w [vl (tSlice t_fold_Object) t.Objects (.slice a2 t.Objects.length c2)] [bldo FKf g (mset x ob.Name fs)] → K7 ρ w := by
      intro ρ w h3 h11 h12 h13 hs
      refine hK7 _ _ ?_
      refine W.region ?_
      obtain ⟨j, ej, hf⟩ := letE hf
      refine WL.bin (v := .int .i64 j) h13 rfl (ib_as ej (ib_add _ _ _)) ?_
      refine WL.move (v := .int .i64 j) rfl ?_
      refine WL.nil ?_
      exact ⟨_, (Option.some.inj hf).symm, h3, h11, h12, rfl, hs⟩
    refine W.block ?_
    refine W.seqK fun K8 hK8 => ?_
    refine W.region ?_
    refine WL.indexAddr hs 0 rfl UN39 TI80 h11 h13 hob (fun ad hs => ?_)
    refine WL.loadP hs 0 rfl TI80 (.inl rfl) rfl (fun v hs => ?_)
    obtain ⟨os, hlo, rfl⟩ := hs.aggv (n := 2) 0 rfl rfl rfl
    obtain ⟨a3, c3, rfl⟩ := open_fold_Object hs 0 rfl
    refine WL.alloc hs ZV80 (fun g5 w hs => ?_)
    refine WL.storeAll (vs := [bstr ob.Name, .slice a3 ob.Fields.length c3]) hs 0 rfl TI80 rfl rfl rfl rfl (ones_of rfl) rfl (fun w hs => ?_)
    refine WL.nil ?_
    refine hK8 _ _ ?_
    refine W.seqK fun K9 hK9 => ?_
    refine W.region ?_
    refine WL.makeMap bstr (tRaw FKf.n) hs (fun gi w hs => ?_)
    refine WL.assign (v := .map (some gi)) rfl ?_
    refine WL.nil ?_
    refine hK9 _ _ ?_
    have hs := St.innClose (K := FKf) (gi := gi) (fs := []) (l := []) hs rfl
    refine W.seqK fun K10 hK10 => ?_
    have Jput : ∀ (ρ : Env) (w : World), ρ 3 = .map (some g) → ρ 5 = .pointer (some ⟨g5, 0, none⟩) → ρ 6 = .map (some gi) → ρ 11 = .slice a2 t.Objects.length c2 → ρ 12 = .int .i64 (t.Objects.length : Int) → ρ 13 = .int .i64 i →
        St ok (bz w0) w [vl (tSlice t_fold_Object) t.Objects (.slice a2 t.Objects.length c2)] [inno FKf gi fs, bldo FKf g x, blk g5 80 [bstr ob.Name, .slice a3 ob.Fields.length c3]] → K10 ρ w := by
      intro ρ w h3 h5 h6 h11 h12 h13 hs
      refine hK10 _ _ ?_
      refine W.region ?_
      refine WL.move (v := .map (some g)) h3 ?_
      refine WL.fieldAddr (m := 0) h5 FA80_0 rfl ?_
      refine WL.load1 (v := bstr ob.Name) hs 2 rfl TI9 rfl rfl ?_
      refine WL.move (v := .map (some gi)) h6 ?_
      refine WL.bldAttach FKf (k := ob.Name) hs (kkStr UN9) UN64 rfl rfl rfl (fun w hs => ?_)
      refine WL.nil ?_
      exact Jend _ _ h3 h11 h12 h13 (hs.mask [true])
    refine W.seqK fun K11 hK11 => ?_
    refine W.region ?_
    refine WL.fieldAddr (m := 1) rfl FA80_1 rfl ?_
    refine WL.loadF (z := ob.Fields) F_fold_Object_Fields hs 1 rfl 0 rfl rfl TI78 (.inr rfl) rfl rfl (fun v hs => ?_)
    obtain ⟨a4, c4, rfl⟩ := hs.slice 0 rfl
    refine WL.len (v := .slice a4 ob.Fields.length c4) rfl (len_slice UN78) ?_
    refine WL.move (v := .int .i64 0) rfl ?_
    refine WL.nil ?_
    refine hK11 _ _ ?_
    refine W.block ?_
    have hs := (hs.front 2 rfl).pick [0, 3]
    have hs := hs.front 1 rfl
    refine W.loop (σ := Int × List fold_Field) hfs (fun s ρ w => match s with | (k, fs) => ρ 3 = .map (some g) ∧ ρ 5 = .pointer (some ⟨g5, 0, none⟩) ∧ ρ 6 = .map (some gi) ∧ ρ 11 = .slice a2 t.Objects.length c2 ∧ ρ 12 = .int .i64 (t.Objects.length : Int) ∧ ρ 13 = .int .i64 i ∧ ρ 19 = .slice a4 ob.Fields.length c4 ∧ ρ 20 = .int .i64 (ob.Fields.length : Int) ∧ ρ 21 = .int .i64 k ∧ St ok (bz w0) w [vl (tSlice t_fold_Field) ob.Fields (.slice a4 ob.Fields.length c4), vl (tSlice t_fold_Object) t.Objects (.slice a2 t.Objects.length c2)] [inno FKf gi fs, bldo FKf g x, blk g5 80 [bstr ob.Name, .slice a3 ob.Fields.length c3]]) ⟨h3, rfl, rfl, h11, h12, h13, rfl, rfl, rfl, hs⟩ ?_
    intro s ρ w o2 hI hf2 hbb2
    obtain ⟨k, fs2⟩ := s
    obtain ⟨h3, h5, h6, h11, h12, h13, h19, h20, h21, hs⟩ := hI
    unfold fold_load.l1 at hf2
    refine W.seqK fun K12 hK12 => ?_
    refine W.region ?_
    refine WL.bin (v := .bool (decide (k < (ob.Fields.length : Int)))) h21 h20 (ib_lss _ _ _) ?_
    refine WL.nil ?_
    refine hK12 _ _ ?_
    refine W.seqK fun K13 hK13 => ?_
    rcases iteE hf2 with ⟨hc2, hf2⟩ | ⟨hc2, hf2⟩
    · refine W.cond_true (bool_tr rfl hc2) ?_
      refine W.skip ?_
      refine hK13 _ _ ?_
      obtain ⟨f, hfk, hf2⟩ := bindE hf2
      obtain ⟨l, hcl, hf2⟩ := bindE hf2
      refine W.seqK fun K14 hK14 => ?_
      refine W.block ?_
      refine W.seqK fun K15 hK15 => ?_
      refine W.region ?_
      refine WL.indexAddr hs 0 rfl UN78 TI85 h19 h21 hfk (fun ad hs => ?_)
      refine WL.loadP hs 0 rfl TI85 (.inl rfl) rfl (fun v hs => ?_)
      obtain ⟨ds, hld, rfl⟩ := hs.aggv (n := 12) 0 rfl rfl rfl
      obtain ⟨a6, c6, rfl⟩ := open_fold_Field hs 0 rfl
      have hs := hs.add (it := vl (tSlice tStr) f.Elems (.slice a6 f.Elems.length c6)) fun ok hA => V_fld F_fold_Field_Elems (hA.get 0 rfl) rfl rfl rfl
      refine WL.alloc hs ZV85 (fun g8 w hs => ?_)
      refine WL.storeAll (vs := fcells f (.slice a6 f.Elems.length c6)) hs 0 rfl TI85 rfl rfl rfl rfl (ones_of rfl) rfl (fun w hs => ?_)
      refine WL.nil ?_
      refine hK15 _ _ ?_
      refine W.seqK fun K16 hK16 => ?_
      refine W.region ?_
      refine WL.fieldAddr (m := 10) rfl FA85_5 rfl ?_
      refine WL.load1 (v := .slice a6 f.Elems.length c6) hs 0 rfl TI32 rfl rfl ?_
      refine WL.call (vs := [.slice a6 f.Elems.length c6]) hs FN36 ⟨rfl, trivial⟩ (fun ok hA => slices_Clone_string.calls (x1 := f.Elems) hcl (hA.get 0 rfl)) ?_
      rintro ⟨a7, n7, c7⟩ w hs
      refine WL.fieldAddr (m := 10) rfl FA85_5 rfl ?_
      refine WL.store (vs := [.slice a7 n7 c7]) (cs' := fcells { f with Elems := l } (.slice a7 n7 c7)) hs 1 rfl TI32 rfl rfl rfl rfl (ones_of rfl) (Nat.le_of_ble_eq_true rfl) rfl (fun w hs => ?_)
      refine WL.nil ?_
      refine hK16 _ _ ?_
      refine W.region ?_
      refine WL.move (v := .map (some gi)) h6 ?_
      refine WL.fieldAddr (m := 0) rfl FA85_0 rfl ?_
      refine WL.load1 (v := bstr f.Name) hs 1 rfl TI9 rfl rfl ?_
      refine WL.loadN (vs := fcells { f with Elems := l } (.slice a7 n7 c7)) hs 1 rfl TI85 rfl rfl rfl ?_
      have hs := (hs.front 2 rfl).front 1 rfl
      refine WL.innPut FKf (y := { f with Elems := l }) (v := .slice a7 n7 c7) hs (kkStr UN9) UN81 rfl rfl rfl rfl (ones_of rfl) (fun w hs => ?_)
      refine WL.nil ?_
      refine hK14 _ _ ?_
      refine W.region ?_
      obtain ⟨j, ej, hf2⟩ := letE hf2
      refine WL.bin (v := .int .i64 j) h21 rfl (ib_as ej (ib_add _ _ _)) ?_
      refine WL.move (v := .int .i64 j) rfl ?_
      refine WL.nil ?_
      exact ⟨_, (Option.some.inj hf2).symm, h3, h5, h6, h11, h12, h13, h19, h20, rfl, (hs.mask [true, false, true, true]).pick [3, 4]⟩
    · refine W.cond_false (bool_tr rfl hc2) ?_
      refine W.exit ?_
      have hr := Option.some.inj hf2; subst hr
      have hr := hbb2 _ rfl; subst hr
      exact Jput _ _ h3 h5 h6 h11 h12 h13 (hs.pick [1])
  · refine W.cond_false (bool_tr rfl hc) ?_
    refine W.exit ?_
    have hr := Option.some.inj hf; subst hr
    have hr := hbb _ rfl; subst hr
    exact Jret _ _ h3 (.inr (hs.pick []))
theorem fold_store.calls {ok : Nat → Prop} {w0 : World} {x : fold_F} {g : Nat} {r : fold_Store} (hf : fold_store x = some r) (i0 : (vl (tMap bstr (tMap bstr t_fold_Field)) x (.map (some g))).holds ok w0) :
    Calls Try.prog 29 #[.map (some g)] w0 fun e w' => ∃ v, e = .returned v ∧ ∃ y : List Value, v = .agg y.toArray ∧ St ok (bz w0) w' [vl t_fold_Store r (.agg y.toArray)] [] := by
  unfold fold_store at hf
  obtain ⟨ns, hns, hf⟩ := bindE hf
  obtain ⟨ol, hol, hf⟩ := bindE hf
  have hf := Option.some.inj hf
  subst hf
  have hs : St ok (bz w0) w0 [vl (tMap bstr (tMap bstr t_fold_Field)) x (.map (some g))] [] := St.init (All.cons i0 All.nil)
  clear i0
  refine calls_of_W (fn := Try.f29) (N := 48) Try.func29 rfl Try.ntmps29 rfl ?_
  refine W.seqK fun K1 hK1 => ?_
  refine W.region ?_
  refine WL.alloc hs ZV41 (fun g2 w hs => ?_)
  refine WL.nil ?_
  refine hK1 _ _ ?_
  refine W.seqK fun K2 hK2 => ?_
  refine W.region ?_
  refine WL.alloc hs ZV41 (fun g3 w hs => ?_)
  refine WL.nil ?_
  refine hK2 _ _ ?_
  refine W.seqK fun K3 hK3 => ?_
  have hs := hs.ownNil t_fold_Object 80
  have Jret : ∀ (a : Option Addr) (n c : Nat) (ρ : Env) (w : World), ρ 2 = .pointer (some ⟨g2, 0, none⟩) → ρ 3 = .pointer (some ⟨g3, 0, none⟩) → St ok (bz w0) w [] [own t_fold_Object 80 (.slice a n c) ol, blk g3 41 [.slice a n c], blk g2 41 [.slice none 0 0]] → K3 ρ w := by
    intro a n c ρ w h2 h3 hs
    refine hK3 _ _ ?_
    refine W.seqK fun K4 hK4 => ?_
    refine W.region ?_
    refine WL.loadN (vs := [.slice a n c]) hs 1 rfl TI41 h3 rfl rfl ?_
    refine WL.storeAll (vs := [.slice a n c]) hs 2 rfl TI41 h2 rfl rfl rfl (ones_of rfl) rfl (fun w hs => ?_)
    refine WL.nil ?_
    refine hK4 _ _ ?_
    refine W.ret ?_
    obtain rfl := hs.ownLen 0 rfl
    have hs2 := hs.freezeOwn 0 rfl
    have hs3 := hs2.add (it := vl t_fold_Store ⟨ol⟩ (.agg [.slice a ol.length c].toArray)) fun ok hA => V_agg (R_one (hA.get 0 rfl)) rfl
    exact ⟨_, resOk_one rfl (res_all hs 2 rfl TI41 h2 rfl), [.slice a ol.length c], rfl, (hs3.mask []).pick [0]⟩
  refine W.seqK fun K4 hK4 => ?_
  refine W.region ?_
  refine WL.move (v := .map (some g)) rfl ?_
  refine WL.sortedKeys sk_B UN9 hs 0 rfl rfl hns (fun cl v w hs => ?_)
  obtain ⟨a1, c1, rfl⟩ := hs.ownv 0 rfl
  have hs := hs.freezeOwn 0 rfl
  refine WL.len (v := .slice a1 ns.length c1) rfl (len_slice UN32) ?_
  refine WL.move (v := .int .i64 0) rfl ?_
  refine WL.nil ?_
  refine hK4 _ _ ?_
  refine W.block ?_
  refine W.loop (σ := Int × List fold_Object) hol (fun s ρ w => match s with | (i, out) => ∃ (a : Option Addr), ∃ (n : Nat), ∃ (c : Nat), ρ 0 = .map (some g) ∧ ρ 2 = .pointer (some ⟨g2, 0, none⟩) ∧ ρ 3 = .pointer (some ⟨g3, 0, none⟩) ∧ ρ 11 = .slice a1 ns.length c1 ∧ ρ 12 = .int .i64 (ns.length : Int) ∧ ρ 13 = .int .i64 i ∧ St ok (bz w0) w [vl (tSlice tStr) ns (.slice a1 ns.length c1), vl (tMap bstr (tMap bstr t_fold_Field)) x (.map (some g))] [own t_fold_Object 80 (.slice a n c) out, blk g3 41 [.slice a n c], blk g2 41 [.slice none 0 0]]) ⟨none, 0, 0, rfl, rfl, rfl, rfl, rfl, rfl, hs⟩ ?_
  intro s ρ w o hI hf hbb
  obtain ⟨i, out⟩ := s
  obtain ⟨a, n, c, h0, h2, h3, h11, h12, h13, hs⟩ := hI
  unfold fold_store.l2 at hf
  refine W.seqK fun K5 hK5 => ?_
  refine W.region ?_
  refine WL.bin (v := .bool (decide (i < (ns.length : Int)))) h13 h12 (ib_lss _ _ _) ?_
  refine WL.nil ?_
  refine hK5 _ _ ?_
  refine W.seqK fun K6 hK6 => ?_
  rcases iteE hf with ⟨hc, hf⟩ | ⟨hc, hf⟩
  · refine W.cond_true (bool_tr rfl hc) ?_
    refine W.skip ?_
    refine hK6 _ _ ?_
    obtain ⟨nm, hnm, hf⟩ := bindE hf
    obtain ⟨fs, hfs, hf⟩ := bindE hf
    obtain ⟨l, hl, hf⟩ := bindE hf
    obtain ⟨out', hout, hf⟩ := bindE hf
    refine W.seqK fun K7 hK7 => ?_
    have Jend : ∀ (a : Option Addr) (n c : Nat) (ρ : Env) (w : World), ρ 0 = .map (some g) → ρ 2 = .pointer (some ⟨g2, 0, none⟩) → ρ 3 = .pointer (some ⟨g3, 0, none⟩) → ρ 11 = .slice a1 ns.length c1 → ρ 12 = .int .i64 (ns.length : Int) → ρ 13 = .int .i64 i → St ok (bz w0) w [vl (tSlice tStr) ns (.slice a1 ns.length c1), vl (tMap bstr (tMap bstr t_fold_Field)) x (.map (some g))] [own t_fold_Object 80 (.slice a n c) out', blk g3 41 [.slice a n c], blk g2 41 [.slice none 0 0]] → K7 ρ w := by
      intro a n c ρ w h0 h2 h3 h11 h12 h13 hs
      refine hK7 _ _ ?_
      refine W.region ?_
      obtain ⟨j, ej, hf⟩ := letE hf
      refine WL.bin (v := .int .i64 j) h13 rfl (ib_as ej (ib_add _ _ _)) ?_
      refine WL.move (v := .int .i64 j) rfl ?_
      refine WL.nil ?_
      exact ⟨_, (Option.some.inj hf).symm, a, n, c, h0, h2, h3, h11, h12, rfl, hs⟩
    refine W.block ?_
    refine W.seqK fun K8 hK8 => ?_
    refine W.region ?_
    refine WL.indexAddr hs 0 rfl UN32 TI9 h11 h13 hnm (fun ad hs => ?_)
    refine WL.loadP hs 0 rfl TI9 (.inr rfl) rfl (fun v hs => ?_)
    obtain rfl := hs.str 0 rfl
    refine WL.assign (v := bstr nm) rfl ?_
    refine WL.nil ?_
    refine hK8 _ _ ?_
    have hs := hs.pick [2, 3]
    refine W.seqK fun K9 hK9 => ?_
    refine W.region ?_
    refine WL.move (v := bstr nm) rfl ?_
    refine WL.build (vs := [(0, bstr nm)]) (cs := [bstr nm, .slice none 0 0]) ⟨⟨rfl, rfl⟩, trivial⟩ (bld PL80 rfl) ?_
    refine WL.alloc hs ZV80 (fun g6 w hs => ?_)
    refine WL.storeAll (vs := [bstr nm, .slice none 0 0]) hs 0 rfl TI80 rfl rfl rfl rfl (ones_of rfl) rfl (fun w hs => ?_)
    refine WL.nil ?_
    refine hK9 _ _ ?_
    have hs := hs.ownNil t_fold_Field 85
    refine W.seqK fun K10 hK10 => ?_
    have Jobj : ∀ (a4 : Option Addr) (n4 c4 : Nat) (ρ : Env) (w : World), ρ 0 = .map (some g) → ρ 2 = .pointer (some ⟨g2, 0, none⟩) → ρ 3 = .pointer (some ⟨g3, 0, none⟩) → ρ 6 = .pointer (some ⟨g6, 0, none⟩) → ρ 11 = .slice a1 ns.length c1 → ρ 12 = .int .i64 (ns.length : Int) → ρ 13 = .int .i64 i →
        St ok (bz w0) w [vl (tSlice tStr) ns (.slice a1 ns.length c1), vl (tMap bstr (tMap bstr t_fold_Field)) x (.map (some g))] [own t_fold_Field 85 (.slice a4 n4 c4) l, blk g6 80 [bstr nm, .slice a4 n4 c4], own t_fold_Object 80 (.slice a n c) out, blk g3 41 [.slice a n c], blk g2 41 [.slice none 0 0]] → K10 ρ w := by
      intro a4 n4 c4 ρ w h0 h2 h3 h6 h11 h12 h13 hs
      refine hK10 _ _ ?_
      refine W.region ?_
      refine WL.fieldAddr (m := 0) h3 FA41_0 rfl ?_
      refine WL.load1 (v := .slice a n c) hs 3 rfl TI39 rfl rfl ?_
      refine WL.loadN (vs := [bstr nm, .slice a4 n4 c4]) hs 1 rfl TI80 h6 rfl rfl ?_
      refine WL.buildSlice (n := 1) (vs := [(0, .agg ([bstr nm, .slice a4 n4 c4] : List Value).toArray)]) (cs := [bstr nm, .slice a4 n4 c4]) hs ⟨⟨rfl, rfl⟩, trivial⟩ (bls PS39 (by decide) rfl) (fun g9 w hs => ?_)
      obtain rfl := hs.ownLen 1 rfl
      have hs := hs.freezeOwn 1 rfl
      obtain ⟨hb1, he1⟩ := appE hout
      refine WL.append (ys := [(⟨nm, l⟩ : fold_Object)]) (zs := out') hs 2 rfl 0 rfl UN39 EI80 rfl rfl (fun ok hA => (Cells.one (T := t_fold_Object) (show t_fold_Object.R ok _ (⟨nm, l⟩ : fold_Object) _ from ⟨[bstr nm], [.slice a4 l.length c4], rfl, rfl, (R_one (hA.get 0 rfl))⟩))) hb1 (by omega) he1 (fun v w hs => ?_)
      obtain ⟨a5, n5, c5, rfl⟩ := hs.ownv3 2 rfl
      refine WL.fieldAddr (m := 0) h3 FA41_0 rfl ?_
      refine WL.storeAll (vs := [.slice a5 n5 c5]) hs 3 rfl TI39 rfl rfl rfl rfl (ones_of rfl) rfl (fun w hs => ?_)
      refine WL.nil ?_
      exact Jend a5 n5 c5 _ _ h0 h2 h3 h11 h12 h13 ((hs.mask [false, false, true, true, true]).pick [1, 2])
    refine W.seqK fun K11 hK11 => ?_
    refine W.region ?_
    refine WL.move (v := .map (some g)) h0 ?_
    refine WL.move (v := bstr nm) rfl ?_
    refine WL.lookupT (V := tMap bstr t_fold_Field) (z0 := []) (y := (x.lookup nm).getD []) hs 1 rfl (kkStr UN9) UN64 rfl rfl ZR81 (fun _ _ => tMap_V.2 (.inl ⟨rfl, rfl⟩)) rfl (fun mv hs => ?_)
    refine WL.sortedKeys sk_F UN9 hs 0 rfl rfl hfs (fun cl v w hs => ?_)
    obtain ⟨a7, c7, rfl⟩ := hs.ownv 0 rfl
    have hs := hs.freezeOwn 0 rfl
    refine WL.len (v := .slice a7 fs.length c7) rfl (len_slice UN32) ?_
    refine WL.move (v := .int .i64 0) rfl ?_
    refine WL.nil ?_
    refine hK11 _ _ ?_
    refine W.block ?_
    refine W.loop (σ := Int × List fold_Field) hl (fun s ρ w => match s with | (k, l) => ∃ (a4 : Option Addr), ∃ (n4 : Nat), ∃ (c4 : Nat), ρ 0 = .map (some g) ∧ ρ 2 = .pointer (some ⟨g2, 0, none⟩) ∧ ρ 3 = .pointer (some ⟨g3, 0, none⟩) ∧ ρ 5 = bstr nm ∧ ρ 6 = .pointer (some ⟨g6, 0, none⟩) ∧ ρ 11 = .slice a1 ns.length c1 ∧ ρ 12 = .int .i64 (ns.length : Int) ∧ ρ 13 = .int .i64 i ∧ ρ 23 = .slice a7 fs.length c7 ∧ ρ 24 = .int .i64 (fs.length : Int) ∧ ρ 25 = .int .i64 k ∧ St ok (bz w0) w [vl (tSlice tStr) fs (.slice a7 fs.length c7), vl (tSlice tStr) ns (.slice a1 ns.length c1), vl (tMap bstr (tMap bstr t_fold_Field)) x (.map (some g))] [own t_fold_Field 85 (.slice a4 n4 c4) l, blk g6 80 [bstr nm, .slice a4 n4 c4], own t_fold_Object 80 (.slice a n c) out, blk g3 41 [.slice a n c], blk g2 41 [.slice none 0 0]]) ⟨none, 0, 0, h0, h2, h3, rfl, rfl, h11, h12, h13, rfl, rfl, rfl, hs.pick [0, 2, 3]⟩ ?_
    intro s ρ w o2 hI hf2 hbb2
    obtain ⟨k, l2⟩ := s
    obtain ⟨a4, n4, c4, h0, h2, h3, h5, h6, h11, h12, h13, h23, h24, h25, hs⟩ := hI
    unfold fold_store.l1 at hf2
    refine W.seqK fun K12 hK12 => ?_
    refine W.region ?_
    refine WL.bin (v := .bool (decide (k < (fs.length : Int)))) h25 h24 (ib_lss _ _ _) ?_
    refine WL.nil ?_
    refine hK12 _ _ ?_
    refine W.seqK fun K13 hK13 => ?_
    rcases iteE hf2 with ⟨hc2, hf2⟩ | ⟨hc2, hf2⟩
    · refine W.cond_true (bool_tr rfl hc2) ?_
      refine W.skip ?_
      refine hK13 _ _ ?_
      obtain ⟨fm, hfm, hf2⟩ := bindE hf2
      obtain ⟨l3, hl3, hf2⟩ := bindE hf2
      refine W.seqK fun K14 hK14 => ?_
      refine W.block ?_
      refine W.seqK fun K15 hK15 => ?_
      refine W.region ?_
      refine WL.indexAddr hs 0 rfl UN32 TI9 h23 h25 hfm (fun ad hs => ?_)
      refine WL.loadP hs 0 rfl TI9 (.inr rfl) rfl (fun v hs => ?_)
      obtain rfl := hs.str 0 rfl
      refine WL.assign (v := bstr fm) rfl ?_
      refine WL.nil ?_
      refine hK15 _ _ ?_
      have hs := hs.pick [2, 3, 4]
      refine W.region ?_
      refine WL.fieldAddr (m := 1) h6 FA80_1 rfl ?_
      refine WL.load1 (v := .slice a4 n4 c4) hs 1 rfl TI78 rfl rfl ?_
      refine WL.move (v := .map (some g)) h0 ?_
      refine WL.move (v := bstr nm) h5 ?_
      refine WL.lookupT (V := tMap bstr t_fold_Field) (z0 := []) (y := (x.lookup nm).getD []) hs 2 rfl (kkStr UN9) UN64 rfl rfl ZR81 (fun _ _ => tMap_V.2 (.inl ⟨rfl, rfl⟩)) rfl (fun mv2 hs => ?_)
      refine WL.move (v := bstr fm) rfl ?_
      refine WL.lookupT (V := t_fold_Field) (z0 := fold_zero) (y := (((x.lookup nm).getD []).lookup fm).getD fold_zero) hs 0 rfl (kkStr UN9) UN81 rfl rfl ZR85 (fun ok w => V_agg (cs := fcells fold_zero (.slice none 0 0)) (fieldR ok w fold_zero (.slice none 0 0) V_nil) rfl) rfl (fun fv hs => ?_)
      obtain ⟨ds, hld, rfl⟩ := hs.aggv (n := 12) 0 rfl rfl rfl
      obtain ⟨a6, c6, rfl⟩ := open_fold_Field hs 0 rfl
      refine WL.buildSlice (n := 1) (vs := [(0, .agg (fcells ((((x.lookup nm).getD []).lookup fm).getD fold_zero) (.slice a6 ((((x.lookup nm).getD []).lookup fm).getD fold_zero).Elems.length c6)).toArray)]) (cs := fcells ((((x.lookup nm).getD []).lookup fm).getD fold_zero) (.slice a6 ((((x.lookup nm).getD []).lookup fm).getD fold_zero).Elems.length c6)) hs ⟨⟨rfl, rfl⟩, trivial⟩ (bls PS78 (by decide) rfl) (fun g9 w hs => ?_)
      obtain ⟨hb1, he1⟩ := appE hl3
      refine WL.append (ys := [(((x.lookup nm).getD []).lookup fm).getD fold_zero]) (zs := l3) hs 1 rfl 0 rfl UN78 EI85 rfl rfl (fun ok hA => Cells.one (T := t_fold_Field) (R_agg (hA.get 0 rfl) rfl)) hb1 (by omega) he1 (fun v w hs => ?_)
      obtain ⟨a8, n8, c8, rfl⟩ := hs.ownv3 1 rfl
      refine WL.fieldAddr (m := 1) h6 FA80_1 rfl ?_
      refine WL.store (vs := [.slice a8 n8 c8]) (cs' := [bstr nm, .slice a8 n8 c8]) hs 2 rfl TI78 rfl rfl rfl rfl (ones_of rfl) (Nat.le_of_ble_eq_true rfl) rfl (fun w hs => ?_)
      refine WL.nil ?_
      refine hK14 _ _ ?_
      refine W.region ?_
      obtain ⟨j, ej, hf2⟩ := letE hf2
      refine WL.bin (v := .int .i64 j) h25 rfl (ib_as ej (ib_add _ _ _)) ?_
      refine WL.move (v := .int .i64 j) rfl ?_
      refine WL.nil ?_
      exact ⟨_, (Option.some.inj hf2).symm, a8, n8, c8, h0, h2, h3, h5, h6, h11, h12, h13, h23, h24, rfl, (hs.mask [false, true, true, true, true, true]).pick [2, 3, 4]⟩
    · refine W.cond_false (bool_tr rfl hc2) ?_
      refine W.exit ?_
      have hr := Option.some.inj hf2; subst hr
      have hr := hbb2 _ rfl; subst hr
      exact Jobj a4 n4 c4 _ _ h0 h2 h3 h6 h11 h12 h13 (hs.pick [1, 2])
  · refine W.cond_false (bool_tr rfl hc) ?_
    refine W.exit ?_
    have hr := Option.some.inj hf; subst hr
    have hr := hbb _ rfl; subst hr
    exact Jret a n c _ _ h2 h3 (hs.pick [])
theorem St.bFreeze {ok : Nat → Prop} {F : Base} {w : World} {Γ : List It} {Λ : List LObj} {g : Nat} {x : fold_B} (hs : St ok F w Γ (bldo FKf g x :: Λ)) : St ok F w (vl (tMap bstr (tMap bstr t_fold_Field)) (fold_frz x) (.map (some g)) :: Γ) Λ :=
  St.bldFreeze FKf (T := t_fold_Field) (fun ok w y v h => fieldR ok w y v h) rfl hs
theorem fold_Apply.calls {ok : Nat → Prop} {w0 : World} {x1 : fold_Store} {x2 : api_Update} {v1 v2 : Value} {r : fold_Store} (hf : fold_Apply x1 x2 = some r) (i0 : (vl t_fold_Store x1 v1).holds ok w0) (i1 : (vl t_api_Update x2 v2).holds ok w0) :
    Calls Try.prog 16 #[v1, v2] w0 fun e w' => ∃ v, e = .returned v ∧ ∃ y : List Value, v = .agg y.toArray ∧ St ok (bz w0) w' [vl t_fold_Store r (.agg y.toArray)] [] := by
  unfold fold_Apply at hf
  obtain ⟨b, hb, hf⟩ := bindE hf
  obtain ⟨b', hb', hf⟩ := bindE hf
  have hs : St ok (bz w0) w0 [vl t_fold_Store x1 v1, vl t_api_Update x2 v2] [] := St.init (All.cons i0 (All.cons i1 All.nil))
  clear i0 i1
  obtain ⟨cs, hl, rfl⟩ := hs.aggv (n := 1) 0 rfl rfl rfl
  obtain ⟨ds, hld, rfl⟩ := hs.aggv (n := 4) 1 rfl rfl rfl
  refine calls_of_W (fn := Try.f16) (N := 13) Try.func16 rfl Try.ntmps16 rfl ?_
  refine W.seqK fun K1 hK1 => ?_
  refine W.region ?_
  refine WL.box (vs := cs) hs rfl rfl (fun g2 w hs => ?_)
  refine WL.box (vs := ds) hs rfl rfl (fun g3 w hs => ?_)
  refine WL.alloc hs ZV41 (fun g4 w hs => ?_)
  refine WL.nil ?_
  refine hK1 _ _ ?_
  refine W.seqK fun K2 hK2 => ?_
  refine W.region ?_
  refine WL.loadAll hs 2 rfl TI41 rfl hl ?_
  refine WL.call (vs := [.agg cs.toArray]) hs FN27 ⟨rfl, trivial⟩ (fun ok hA => fold_load.calls hb (hA.get 0 rfl)) ?_
  rintro g w hs
  refine WL.assign (v := .map (some g)) rfl ?_
  refine WL.nil ?_
  refine hK2 _ _ ?_
  refine W.seqK fun K3 hK3 => ?_
  refine W.region ?_
  refine WL.move (v := .map (some g)) rfl ?_
  refine WL.loadAll hs 2 rfl TI47 rfl hld ?_
  have hs := hs.pick [1]
  refine WL.callO (vs := [.map (some g), .agg ds.toArray]) [bldo FKf g b] hs FN28 ⟨rfl, rfl, trivial⟩ (fun ok F hA => fold_apply.calls hb' hA) ?_
  rintro _ w hs
  refine WL.nil ?_
  refine hK3 _ _ ?_
  refine W.seqK fun K4 hK4 => ?_
  refine W.region ?_
  refine WL.move (v := .map (some g)) rfl ?_
  have hs := St.bFreeze hs
  refine WL.call (vs := [.map (some g)]) hs FN29 ⟨rfl, trivial⟩ (fun ok hA => fold_store.calls hf (hA.get 0 rfl)) ?_
  rintro y w hs
  have hly := hs.agglen (n := 1) 0 rfl rfl rfl
  refine WL.storeAll (vs := y) hs 0 rfl TI41 rfl rfl rfl hly (hs.ones 0 rfl rfl) rfl (fun w hs => ?_)
  refine WL.nil ?_
  refine hK4 _ _ ?_
  refine W.ret ?_
  exact ⟨_, resOk_one rfl (res_all hs 0 rfl TI41 rfl hly), y, rfl, (hs.mask []).pick [0]⟩
end Go.Proofs.Ytpfgdjfiimknlaa
set_option linter.unusedVariables false
namespace Go.Proofs.Ytpfgdjfiimknlaa
open Go Go.RowKit Go.Shelf Go.Sort Go.Proofs.YtpfgdjfiimknlaaL
def lay_sortK_ren : Go.Shelf.Ren := ⟨fun | 6 => 59 | 15 => 57 | 14 => 74 | 28 => 72 | 29 => 73 | 20 => 89 | 21 => 90 | 22 => 91 | 23 => 92 | 24 => 93 | 25 => 94 | 26 => 95 | 27 => 96 | 46 => 101 | 47 => 85 | 48 => 86 | 49 => 102 | 50 => 103 | 57 => 105 | n => n, fun | 22 => 100 | 24 => 23 | 25 => 26 | 3 => 3 | 39 => 103 | 0 => 0 | 53 => 121 | 55 => 123 | 4 => 4 | 46 => 115 | 45 => 114 | 50 => 87 | 5 => 5 | 9 => 9 | 66 => 130 | 70 => 134 | 76 => 143 | 77 => 144 | n => n, fun | n => n⟩
theorem lay_sortK : Go.Proofs.SlLaysF0.n6 Try.prog lay_sortK_ren := {
  mixed := by kernel_rfl
  f6 := ⟨Try.f59.name, by decide, Try.func59.trans (congrArg some (by kernel_rfl))⟩
  f14 := ⟨Try.f74.name, by decide, Try.func74.trans (congrArg some (by kernel_rfl))⟩
  f15 := Try.func57.trans (congrArg some (by kernel_rfl))
  f20 := ⟨Try.f89.name, by decide, Try.func89.trans (congrArg some (by kernel_rfl))⟩
  f21 := ⟨Try.f90.name, by decide, Try.func90.trans (congrArg some (by kernel_rfl))⟩
  f22 := ⟨Try.f91.name, by decide, Try.func91.trans (congrArg some (by kernel_rfl))⟩
  f23 := ⟨Try.f92.name, by decide, Try.func92.trans (congrArg some (by kernel_rfl))⟩
  f24 := ⟨Try.f93.name, by decide, Try.func93.trans (congrArg some (by kernel_rfl))⟩
  f25 := ⟨Try.f94.name, by decide, Try.func94.trans (congrArg some (by kernel_rfl))⟩
  f26 := ⟨Try.f95.name, by decide, Try.func95.trans (congrArg some (by kernel_rfl))⟩
  f27 := ⟨Try.f96.name, by decide, Try.func96.trans (congrArg some (by kernel_rfl))⟩
  f28 := Try.func72.trans (congrArg some (by kernel_rfl))
  f29 := Try.func73.trans (congrArg some (by kernel_rfl))
  f46 := ⟨Try.f101.name, by decide, Try.func101.trans (congrArg some (by kernel_rfl))⟩
  f47 := Try.func85.trans (congrArg some (by kernel_rfl))
  f48 := Try.func86.trans (congrArg some (by kernel_rfl))
  f49 := ⟨Try.f102.name, by decide, Try.func102.trans (congrArg some (by kernel_rfl))⟩
  f50 := ⟨Try.f103.name, by decide, Try.func103.trans (congrArg some (by kernel_rfl))⟩
  f57 := ⟨Try.f105.name, by decide, Try.func105.trans (congrArg some (by kernel_rfl))⟩
  t0 := Try.underlying0
  a0 := Try.isAgg0
  z0 := Try.sizeOf0
  v0 := Try.zeroValue0
  t3 := Try.underlying3
  a3 := Try.isAgg3
  z3 := Try.sizeOf3
  v3 := Try.zeroValue3
  t4 := Try.underlying4
  a4 := Try.isAgg4
  z4 := Try.sizeOf4
  v4 := Try.zeroValue4
  t5 := Try.underlying5
  a5 := Try.isAgg5
  z5 := Try.sizeOf5
  v5 := Try.zeroValue5
  t9 := Try.underlying9
  a9 := Try.isAgg9
  z9 := Try.sizeOf9
  v9 := Try.zeroValue9
  t22 := Try.underlying100
  a22 := Try.isAgg100
  z22 := Try.sizeOf100
  v22 := Try.zeroValue100
  t25 := Try.underlying26
  a25 := Try.isAgg26
  z25 := Try.sizeOf26
  v25 := Try.zeroValue26
  t39 := Try.underlying103
  a39 := Try.isAgg103
  z39 := Try.sizeOf103
  v39 := Try.zeroValue103
  t45 := Try.underlying114
  a45 := Try.isAgg114
  z45 := Try.sizeOf114
  v45 := Try.zeroValue114
  t46 := Try.underlying115
  a46 := Try.isAgg115
  z46 := Try.sizeOf115
  v46 := Try.zeroValue115
  t50 := Try.underlying87
  a50 := Try.isAgg87
  z50 := Try.sizeOf87
  v50 := Try.zeroValue87
  t53 := Try.underlying121
  a53 := Try.isAgg121
  z53 := Try.sizeOf121
  v53 := Try.zeroValue121
  t55 := Try.underlying123
  a55 := Try.isAgg123
  z55 := Try.sizeOf123
  v55 := Try.zeroValue123
  t66 := Try.underlying130
  a66 := Try.isAgg130
  z66 := Try.sizeOf130
  v66 := Try.zeroValue130
  t70 := Try.underlying134
  a70 := Try.isAgg134
  z70 := Try.sizeOf134
  v70 := Try.zeroValue134
  t76 := Try.underlying143
  a76 := Try.isAgg143
  z76 := Try.sizeOf143
  v76 := Try.zeroValue143
  t77 := Try.underlying144
  a77 := Try.isAgg144
  z77 := Try.sizeOf144
  v77 := Try.zeroValue144 }
def lay_sortE_ren : Go.Shelf.Ren := ⟨fun | 6 => 44 | 15 => 57 | 14 => 56 | 28 => 72 | 29 => 73 | 20 => 64 | 21 => 65 | 22 => 66 | 23 => 67 | 24 => 68 | 25 => 69 | 26 => 70 | 27 => 71 | 46 => 84 | 47 => 85 | 48 => 86 | 49 => 87 | 50 => 88 | 57 => 100 | n => n, fun | 22 => 50 | 24 => 72 | 25 => 99 | 3 => 3 | 39 => 103 | 0 => 0 | 53 => 121 | 55 => 123 | 4 => 4 | 46 => 115 | 45 => 114 | 50 => 87 | 5 => 5 | 9 => 9 | 66 => 130 | 70 => 134 | 76 => 143 | 77 => 144 | n => n, fun | n => n⟩
theorem lay_sortE : Go.Proofs.SlLaysF0.n6 Try.prog lay_sortE_ren := {
  mixed := by kernel_rfl
  f6 := ⟨Try.f44.name, by decide, Try.func44.trans (congrArg some (by kernel_rfl))⟩
  f14 := ⟨Try.f56.name, by decide, Try.func56.trans (congrArg some (by kernel_rfl))⟩
  f15 := Try.func57.trans (congrArg some (by kernel_rfl))
  f20 := ⟨Try.f64.name, by decide, Try.func64.trans (congrArg some (by kernel_rfl))⟩
  f21 := ⟨Try.f65.name, by decide, Try.func65.trans (congrArg some (by kernel_rfl))⟩
  f22 := ⟨Try.f66.name, by decide, Try.func66.trans (congrArg some (by kernel_rfl))⟩
  f23 := ⟨Try.f67.name, by decide, Try.func67.trans (congrArg some (by kernel_rfl))⟩
  f24 := ⟨Try.f68.name, by decide, Try.func68.trans (congrArg some (by kernel_rfl))⟩
  f25 := ⟨Try.f69.name, by decide, Try.func69.trans (congrArg some (by kernel_rfl))⟩
  f26 := ⟨Try.f70.name, by decide, Try.func70.trans (congrArg some (by kernel_rfl))⟩
  f27 := ⟨Try.f71.name, by decide, Try.func71.trans (congrArg some (by kernel_rfl))⟩
  f28 := Try.func72.trans (congrArg some (by kernel_rfl))
  f29 := Try.func73.trans (congrArg some (by kernel_rfl))
  f46 := ⟨Try.f84.name, by decide, Try.func84.trans (congrArg some (by kernel_rfl))⟩
  f47 := Try.func85.trans (congrArg some (by kernel_rfl))
  f48 := Try.func86.trans (congrArg some (by kernel_rfl))
  f49 := ⟨Try.f87.name, by decide, Try.func87.trans (congrArg some (by kernel_rfl))⟩
  f50 := ⟨Try.f88.name, by decide, Try.func88.trans (congrArg some (by kernel_rfl))⟩
  f57 := ⟨Try.f100.name, by decide, Try.func100.trans (congrArg some (by kernel_rfl))⟩
  t0 := Try.underlying0
  a0 := Try.isAgg0
  z0 := Try.sizeOf0
  v0 := Try.zeroValue0
  t3 := Try.underlying3
  a3 := Try.isAgg3
  z3 := Try.sizeOf3
  v3 := Try.zeroValue3
  t4 := Try.underlying4
  a4 := Try.isAgg4
  z4 := Try.sizeOf4
  v4 := Try.zeroValue4
  t5 := Try.underlying5
  a5 := Try.isAgg5
  z5 := Try.sizeOf5
  v5 := Try.zeroValue5
  t9 := Try.underlying9
  a9 := Try.isAgg9
  z9 := Try.sizeOf9
  v9 := Try.zeroValue9
  t22 := Try.underlying50
  a22 := Try.isAgg50
  z22 := Try.sizeOf50
  v22 := Try.zeroValue50
  t25 := Try.underlying99
  a25 := Try.isAgg99
  z25 := Try.sizeOf99
  v25 := Try.zeroValue99
  t39 := Try.underlying103
  a39 := Try.isAgg103
  z39 := Try.sizeOf103
  v39 := Try.zeroValue103
  t45 := Try.underlying114
  a45 := Try.isAgg114
  z45 := Try.sizeOf114
  v45 := Try.zeroValue114
  t46 := Try.underlying115
  a46 := Try.isAgg115
  z46 := Try.sizeOf115
  v46 := Try.zeroValue115
  t50 := Try.underlying87
  a50 := Try.isAgg87
  z50 := Try.sizeOf87
  v50 := Try.zeroValue87
  t53 := Try.underlying121
  a53 := Try.isAgg121
  z53 := Try.sizeOf121
  v53 := Try.zeroValue121
  t55 := Try.underlying123
  a55 := Try.isAgg123
  z55 := Try.sizeOf123
  v55 := Try.zeroValue123
  t66 := Try.underlying130
  a66 := Try.isAgg130
  z66 := Try.sizeOf130
  v66 := Try.zeroValue130
  t70 := Try.underlying134
  a70 := Try.isAgg134
  z70 := Try.sizeOf134
  v70 := Try.zeroValue134
  t76 := Try.underlying143
  a76 := Try.isAgg143
  z76 := Try.sizeOf143
  v76 := Try.zeroValue143
  t77 := Try.underlying144
  a77 := Try.isAgg144
  z77 := Try.sizeOf144
  v77 := Try.zeroValue144 }

end Go.Proofs.Ytpfgdjfiimknlaa
set_option linter.unusedVariables false
set_option linter.unusedSimpArgs false
set_option linter.unusedSectionVars false
namespace Go.Proofs.YtpfgdjfiimknlaaL
open Go Go.RowKit
open Go.ChangeMaps (setBlock)
structure KS (P : Program) {κ : Type} [BEq κ] (t : TypeId) (kv : κ → Value) : Prop where
  und : ∃ desc, P.underlying t = some desc ∧ ∀ a b, Instr.sameNow desc (kv a) (kv b) = none
  eql : ∀ a b w, (Op.equal t (kv a) (kv b)).run P w = .ok (a == b) w
  bits : ∀ a, Instr.sameBits 10000 (kv a) (kv a) = true
  chk : ∀ e a w, (Instr.checkKey e 10000 t (kv a)).run P w = .ok () w
section
variable {P : Program} {κ β : Type} [BEq κ] [LawfulBEq κ] {kv : κ → Value} {V : Ty β} {ok : Nat → Prop} {w : World} {t : TypeId}
theorem findAsking_ents (hk : KS P t kv) (k : κ) : ∀ {l : List (κ × β)} {es : List MapEntry} (i : Nat), Ents kv V ok w l es →
    (l.lookup k = none ∧ (Instr.findAsking t (kv k) es i).run P w = .ok none w ∧ (∀ y, mset l k y = l ++ [(k, y)]) ∧ mdel l k = l ∧ k ∉ l.map (·.1)) ∨
    ∃ j y e, l.lookup k = some y ∧ es[j]? = some e ∧ e.key = kv k ∧ (Instr.findAsking t (kv k) es i).run P w = .ok (some (i + j, e.val)) w ∧ V.V ok w y e.val ∧
      (∀ y' e', e'.key = kv k → V.V ok w y' e'.val → Ents kv V ok w (mset l k y') (es.set j e')) ∧ (∀ y', (mset l k y').map (·.1) = l.map (·.1)) ∧ Ents kv V ok w (mdel l k) (es.eraseIdx j)
  | [], [], i, _ => .inl ⟨rfl, rfl, fun _ => rfl, rfl, by simp⟩
  | x :: l, e :: es, i, ⟨h1, h2, h3⟩ => by
    have hs := hk.eql k x.1 w
    rw [← h1] at hs
    cases hkx : k == x.1 with
    | true =>
      have hkk : k = x.1 := by simpa using hkx
      rw [hkx] at hs
      refine .inr ⟨0, x.2, e, by simp [List.lookup, hkx], rfl, by rw [h1, hkk], by rw [Instr.findAsking]; exact (run_bind hs).trans rfl, h2, fun y' e' a b => ?_, fun y' => by simp [mset, hkx], by simpa [mdel, hkx] using h3⟩
      simp only [mset, hkx, if_true]
      exact ⟨by rw [a, hkk], b, h3⟩
    | false =>
      rw [hkx] at hs
      rcases findAsking_ents hk k (i + 1) h3 with ⟨a1, a2, a3, a4, a5⟩ | ⟨j, y, e0, a1, a2, a3, a4, a5, a6, a7, a8⟩
      · refine .inl ⟨by simp [List.lookup, hkx, a1], by rw [Instr.findAsking]; exact (run_bind hs).trans a2, fun y => by simp [mset, hkx, a3 y], by simp [mdel, hkx, a4], ?_⟩
        simp only [List.map_cons, List.mem_cons, not_or]
        exact ⟨by simpa using hkx, a5⟩
      · refine .inr ⟨j + 1, y, e0, by simp [List.lookup, hkx, a1], by simpa using a2, a3, by rw [Instr.findAsking]; refine (run_bind hs).trans (a4.trans ?_); rw [Nat.add_assoc, Nat.add_comm 1], a5, fun y' e' p q => ?_, fun y' => by simp [mset, hkx, a7 y'], ?_⟩
        · simp only [mset, hkx]
          exact ⟨h1, h2, a6 y' e' p q⟩
        · simp only [mdel, hkx]
          exact ⟨h1, h2, a8⟩
  | [], _ :: _, _, h => h.elim
  | _ :: _, [], _, h => h.elim
theorem run_asking (hk : KS P t kv) (k : κ) {l : List (κ × β)} {es : List MapEntry} (he : Ents kv V ok w l es) {r : Option (Nat × Value)} (h : (Instr.findAsking t (kv k) es 0).run P w = .ok r w) : (Instr.findKey t (kv k) es).run P w = .ok r w := by
  obtain ⟨desc, hu, hn⟩ := hk.und
  unfold Instr.findKey
  refine (run_bind (run_und hu w)).trans ?_
  match l, es, he with
  | [], [], _ => exact h
  | x :: l, e :: es, ⟨h1, _, _⟩ =>
    have : Instr.findNow desc (kv k) (e :: es) 0 = none := by rw [Instr.findNow, h1, hn]
    rw [this]
    exact h
theorem findKey_ents (hk : KS P t kv) (k : κ) {l : List (κ × β)} {es : List MapEntry} (he : Ents kv V ok w l es) :
    (l.lookup k = none ∧ (Instr.findKey t (kv k) es).run P w = .ok none w ∧ (∀ y, mset l k y = l ++ [(k, y)]) ∧ mdel l k = l ∧ k ∉ l.map (·.1)) ∨
    ∃ j y e, l.lookup k = some y ∧ es[j]? = some e ∧ e.key = kv k ∧ (Instr.findKey t (kv k) es).run P w = .ok (some (0 + j, e.val)) w ∧ V.V ok w y e.val ∧
      (∀ y' e', e'.key = kv k → V.V ok w y' e'.val → Ents kv V ok w (mset l k y') (es.set j e')) ∧ (∀ y', (mset l k y').map (·.1) = l.map (·.1)) ∧ Ents kv V ok w (mdel l k) (es.eraseIdx j) := by
  rcases findAsking_ents hk k 0 he with ⟨a1, a2, a3⟩ | ⟨j, y, e, a1, a2, a3, a4, a5⟩
  · exact .inl ⟨a1, run_asking hk k he a2, a3⟩
  · exact .inr ⟨j, y, e, a1, a2, a3, run_asking hk k he a4, a5⟩
end
section
variable {P : Program} {N : Nat} {Q : QE} {ρ : Env} {w : World} {w0 : Base} {ok0 : Nat → Prop} {Γ : List It} {Λ : List LObj}
variable {d : Option Tmp} {ty : TypeId} {pos : String} {aft : Array Edge} {gd : Option (Nat × Bool)} {ops : Array Oper} {rest : List Oper}
variable {κ β : Type} [BEq κ] [LawfulBEq κ] {kv : κ → Value} {V : Ty β}
theorem WL.lookupS {t kt et : TypeId} {m x : Operand} {g : Nat} {l : List (κ × β)} {a : κ} {z0 : β} {zc : Value} (hs : St ok0 w0 w Γ Λ) (i : Nat) (hi : Λ[i]? = some (mapo kv V g l)) (hk : KS P kt kv) (ht : P.underlying t = some (.map kt et))
    (hm : ρ.ev m = .map (some g)) (hx : ρ.ev x = kv a) (hz : ∀ w, (zeroValue et).run P w = .ok zc w) (hzV : ∀ (ok : Nat → Prop) (w : World), V.V ok w z0 zc) {y : β} (hy : (l.lookup a).getD z0 = y)
    (K : ∀ v, St ok0 w0 w (vl V y v :: Γ) Λ → WL P N ops Q rest (putE ρ d v) w)
    (hg : wantedE ops ρ ⟨d, .lookup t m x false, ty, pos, aft, gd⟩ = true := by rfl) (hd : fits N d = true := by rfl) :
    WL P N ops Q (⟨d, .lookup t m x false, ty, pos, aft, gd⟩ :: rest) ρ w := by
  subst hy
  obtain ⟨ok, bs, ho, hA, _, _, _⟩ := hs.split i hi
  obtain ⟨_, es, c, hh, he, _, _, _⟩ := ho
  have go : ∀ r : Option (Nat × Value), (Instr.findKey kt (kv a) es.toList).run P w = .ok r w → ∀ v, (match r with | some (_, v) => v | none => zc) = v → (Instr.lookup t (.map (some g)) (kv a) false).run P w = .ok v w := by
    intro r hr v hv
    unfold Instr.lookup
    refine (run_bind (run_und ht w)).trans ?_
    refine (run_bind ((run_bind (run_getO hh)).trans rfl)).trans ?_
    refine (run_bind (hk.chk _ a w)).trans ?_
    refine (run_bind hr).trans ?_
    cases r with
    | none => subst hv; exact (run_bind (hz w)).trans rfl
    | some p => obtain ⟨j, u⟩ := p; subst hv; rfl
  have fin : ∀ v, (Instr.lookup t (.map (some g)) (kv a) false).run P w = .ok v w → St ok0 w0 w (vl V ((l.lookup a).getD z0) v :: Γ) Λ → WL P N ops Q (⟨d, .lookup t m x false, ty, pos, aft, gd⟩ :: rest) ρ w := by
    intro v hv hst
    exact WL.value hg hd (v := v) (w' := w) (by
      show (do pure (Next.value (← Instr.lookup t (ρ.ev m) (ρ.ev x) false)) : Sem Next).run P w = _
      rw [hm, hx]
      exact exec_v hv) (K v hst)
  rcases findKey_ents hk a he with ⟨a1, a2, _⟩ | ⟨j, y, e, a1, a2, a3, a4, a5, _⟩
  · exact fin zc (go _ a2 _ rfl) (hs.add fun ok _ => by rw [a1]; exact hzV ok w)
  · refine fin e.val (go _ a4 _ rfl) (hs.addO i hi fun ok' bs' h' => ?_)
    obtain ⟨_, es', c', hh', he', _⟩ := h'
    rw [hh] at hh'
    cases hh'
    rcases findKey_ents hk a he' with ⟨b1, _⟩ | ⟨j', y', e', b1, b2, b3, b4, b5, _⟩
    · rw [a1] at b1; cases b1
    · rw [a4] at b4
      injection b4 with b4 _
      simp only [Option.some.injEq, Prod.mk.injEq] at b4
      rw [b1]
      show V.V ok' w y' e.val
      rw [b4.2]
      exact b5
theorem WL.mapUpdateS {t kt et : TypeId} {m x u : Operand} {g : Nat} {l l' : List (κ × β)} {a : κ} {y : β} {v : Value} (hs : St ok0 w0 w Γ Λ) (i : Nat) (hi : Λ[i]? = some (mapo kv V g l)) (hk : KS P kt kv) (ht : P.underlying t = some (.map kt et))
    (hm : ρ.ev m = .map (some g)) (hx : ρ.ev x = kv a) (hu : ρ.ev u = v) (hV : ∀ ok, All ok w Γ → V.V ok w y v) (hl : mset l a y = l')
    (K : ∀ w', St ok0 w0 w' Γ (Λ.set i (mapo kv V g l')) → WL P N ops Q rest (putE ρ d undef) w')
    (hg : wantedE ops ρ ⟨d, .mapUpdate t m x u, ty, pos, aft, gd⟩ = true := by rfl) (hd : fits N d = true := by rfl) :
    WL P N ops Q (⟨d, .mapUpdate t m x u, ty, pos, aft, gd⟩ :: rest) ρ w := by
  subst hl
  obtain ⟨ok, bs, ho, hA, hn, hbs, hput⟩ := hs.split i hi
  obtain ⟨rfl, es, c, hh, he, hb1, hb2, hnd⟩ := ho
  have hlt := lt_of_some hh
  have hVy := hV ok hA
  have fin : ∀ (es' : Array MapEntry) (c' : Nat), (Instr.mapUpdate t (.map (some g)) (kv a) v).run P w = .ok () (setBlock w g (.map es' c')) → Ents kv V ok w (mset l a y) es'.toList →
      (es'.toList.map (·.born)).Nodup → (∀ e ∈ es'.toList, e.born < c') → ((mset l a y).map (·.1)).Nodup → WL P N ops Q (⟨d, .mapUpdate t m x u, ty, pos, aft, gd⟩ :: rest) ρ w := by
    intro es' c' hrun h1 h2 h3 h4
    obtain ⟨o1, o2, o3⟩ := off_setBlock (w := w) (g := g) (.map es' c') hlt
    refine WL.unit hg hd (w' := setBlock w g (.map es' c')) (by
      show (do Instr.mapUpdate t (ρ.ev m) (ρ.ev x) (ρ.ev u); pure Next.skip : Sem Next).run P w = _
      rw [hm, hx, hu]
      exact exec_u hrun) (K _ (hput _ [g] _ o1 (by simp) (fun b hb => ⟨.inl hb, ?_⟩) fun ok' hm' => ⟨rfl, es', c', o2, h1.move hm', h2, h3, h4⟩))
    simp at hb; subst hb; omega
  have pre : ∀ r : Option (Nat × Value), (Instr.findKey kt (kv a) es.toList).run P w = .ok r w → (Instr.mapUpdate t (.map (some g)) (kv a) v).run P w =
      ((match r with
        | some (i, _) => do
          let key ← Instr.keyThatStays (((es[i]?).map (·.key)).getD (kv a)) (kv a)
          setObj g (.map (es.modify i fun e => { e with key, val := v }) c)
        | none => setObj g (.map (es.push { key := kv a, val := v, born := c }) (c + 1))) : Sem Unit).run P w := by
    intro r hr
    unfold Instr.mapUpdate
    refine (run_bind (run_und ht w)).trans ?_
    refine (run_bind (run_getO hh)).trans ?_
    refine (run_bind (hk.chk _ a w)).trans ?_
    exact (run_bind hr).trans rfl
  rcases findKey_ents hk a he with ⟨a1, a2, a3, _, a5⟩ | ⟨j, y0, e, a1, a2, a3, a4, a5, a6, a7, _⟩
  · refine fin (es.push { key := kv a, val := v, born := c }) (c + 1) ((pre _ a2).trans (run_setO hh _)) ?_ ?_ ?_ ?_
    · rw [a3 y, Array.toList_push]
      exact Ents.app he ⟨rfl, hVy, trivial⟩
    · rw [Array.toList_push, List.map_append, List.nodup_append]
      refine ⟨hb1, by simp, fun p hp q hq => ?_⟩
      obtain ⟨e, he, rfl⟩ := List.mem_map.1 hp
      simp at hq
      have := hb2 e he
      omega
    · intro e he
      rw [Array.toList_push] at he
      rcases List.mem_append.1 he with he | he
      · have := hb2 e he; omega
      · simp at he; subst he; simp
    · rw [a3 y, List.map_append, List.nodup_append]
      exact ⟨hnd, by simp, fun p hp q hq e => by simp at hq; subst hq; subst e; exact a5 hp⟩
  · have hj : es[j]? = some e := by simpa using a2
    have hkey : (((es[j]?).map (·.key)).getD (kv a)) = kv a := by rw [hj]; exact a3
    have hset : (es.modify j fun e => { e with key := kv a, val := v }).toList = es.toList.set j { e with key := kv a, val := v } := by
      rw [Array.toList_modify]
      apply List.ext_getElem?
      intro q
      rw [List.getElem?_modify, List.getElem?_set]
      by_cases hq : j = q
      · subst hq
        have hjs : j < es.size := by simpa using (List.getElem?_eq_some_iff.1 a2).1
        have a2' : es[j]? = some e := hj
        rw [if_pos rfl, if_pos (by simpa using hjs), a2]
        simp
      · simp [hq]
    refine fin (es.modify j fun e => { e with key := kv a, val := v }) c ((pre _ a4).trans ?_) ?_ ?_ ?_ ?_
    · simp only [Nat.zero_add, hkey]
      refine (run_bind (x := kv a) (w' := w) ?_).trans (run_setO hh _)
      unfold Instr.keyThatStays
      rw [hk.bits, if_pos rfl]
      rfl
    · rw [hset]; exact a6 y _ rfl hVy
    · have hborn : (es.toList.set j { e with key := kv a, val := v }).map (·.born) = es.toList.map (·.born) := by
        apply List.ext_getElem?
        intro q
        rw [List.getElem?_map, List.getElem?_map, List.getElem?_set]
        by_cases hq : j = q
        · subst hq
          have := (List.getElem?_eq_some_iff.1 a2).1
          rw [if_pos rfl, if_pos this, a2]
          rfl
        · simp [hq]
      rw [hset, hborn]
      exact hb1
    · intro e' he'
      rw [hset] at he'
      rcases List.mem_or_eq_of_mem_set he' with h | h
      · exact hb2 e' h
      · subst h; exact hb2 e (List.mem_of_getElem? a2)
    · rw [a7]; exact hnd
end
end Go.Proofs.YtpfgdjfiimknlaaL
set_option linter.unusedVariables false
set_option linter.unusedSimpArgs false
set_option linter.unusedSectionVars false
namespace Go.Proofs.YtpfgdjfiimknlaaL
open Go Go.RowKit
section
variable {κ α : Type} [BEq κ] [LawfulBEq κ] (kv : κ → Value) (A : Ty α) (E : TypeId)
abbrev GE (κ α : Type) := κ × List α × Value
def gout (b : List (GE κ α)) : List (κ × Value) := b.map fun o => (o.1, o.2.2)
def gcont (b : List (GE κ α)) : List (κ × List α) := b.map fun o => (o.1, o.2.1)
def gownP (b : List (GE κ α)) : List (LObj × List Nat) := b.map fun o => (own A E o.2.2 o.2.1, fpV o.2.2)
def grestP : Option (κ × Value × List α) → List (GE κ α) → List (LObj × List Nat)
  | none, b => gownP A E b
  | some (k, v, ys), b => (own A E v ys, fpV v) :: gownP A E (b.filter fun o => !(o.1 == k))
def grpP (t : Option (κ × Value × List α)) (g : Nat) (b : List (GE κ α)) : List (LObj × List Nat) := (mapo kv tCell g (gout b), [g]) :: grestP A E t b
def grest (t : Option (κ × Value × List α)) (b : List (GE κ α)) : List LObj := (grestP A E t b).map (·.1)
def grpL (t : Option (κ × Value × List α)) (g : Nat) (b : List (GE κ α)) : List LObj := (grpP kv A E t g b).map (·.1)
theorem gownP_fp (b : List (GE κ α)) : ∀ p ∈ gownP A E b, ∀ ok bs w, p.1.H ok bs w → bs = p.2 := by
  intro p hp ok bs w h
  obtain ⟨o, _, rfl⟩ := List.mem_map.1 hp
  exact own_fp h
theorem grpP_fp (t : Option (κ × Value × List α)) (g : Nat) (b : List (GE κ α)) : ∀ p ∈ grpP kv A E t g b, ∀ ok bs w, p.1.H ok bs w → bs = p.2 := by
  intro p hp ok bs w h
  rcases List.mem_cons.1 hp with rfl | hp
  · exact h.1
  · match t, hp with
    | none, hp => exact gownP_fp A E b p hp ok bs w h
    | some (k, v, ys), hp =>
      rcases List.mem_cons.1 hp with rfl | hp
      · exact own_fp h
      · exact gownP_fp A E _ p hp ok bs w h
theorem gownP_snd (b : List (GE κ α)) : (gownP A E b).map (·.2) = (gout b).map fun o => fpV o.2 := by
  unfold gownP gout
  rw [List.map_map, List.map_map]
  rfl
theorem gout_filter (k : κ) (b : List (GE κ α)) : gout (b.filter fun o => !(o.1 == k)) = (gout b).filter fun o => !(o.1 == k) := by
  unfold gout
  rw [List.filter_map]
  rfl
theorem grpP_snd {t : Option (κ × Value × List α)} {g : Nat} {b b' : List (GE κ α)} (h : gout b = gout b') : (grpP kv A E t g b).map (·.2) = (grpP kv A E t g b').map (·.2) := by
  unfold grpP
  rw [List.map_cons, List.map_cons]
  congr 1
  match t with
  | none => exact (gownP_snd A E b).trans ((congrArg _ h).trans (gownP_snd A E b').symm)
  | some (k, v, ys) =>
    show fpV v :: (gownP A E _).map (·.2) = fpV v :: (gownP A E _).map (·.2)
    rw [gownP_snd, gownP_snd, gout_filter, gout_filter, h]
def grpo (hkv : ∀ {a b}, kv a = kv b → a = b) (t : Option (κ × Value × List α)) (g : Nat) (x : List (κ × List α)) : LObj where
  H := fun ok bs w => ∃ (b : List (GE κ α)) (bss : List (List Nat)), gcont b = x ∧ bs = bss.flatten ∧ bss.flatten.Nodup ∧ Own ok w (grpL kv A E t g b) bss
  fn := by
    rintro ok ok' bs bs' w ⟨b, bss, _, rfl, _, h⟩ ⟨b', bss', _, rfl, _, h'⟩
    have e1 := Own.eqs (grpP_fp kv A E t g b) h
    have e2 := Own.eqs (grpP_fp kv A E t g b') h'
    obtain ⟨_, q1⟩ := Own.mem h _ (List.mem_cons_self ..)
    obtain ⟨_, q2⟩ := Own.mem h' _ (List.mem_cons_self ..)
    obtain ⟨_, es, c, h1, h2, _⟩ := q1
    obtain ⟨_, es', c', k1, k2, _⟩ := q2
    rw [h1] at k1
    cases k1
    have el := Ents.inj_ hkv (fun {x y v} hx hy => (tCell_V.1 hx).1.symm.trans (tCell_V.1 hy).1) h2 k2
    rw [e1, e2, grpP_snd kv A E el]
  lt := by
    rintro ok bs w ⟨b, bss, _, rfl, _, h⟩ k hk
    exact h.lt k hk
  move := by
    rintro ok ok' bs w w' ⟨b, bss, hc, rfl, hn, h⟩ hk hm
    exact ⟨b, bss, hc, rfl, hn, h.move hm hk⟩
variable {kv A E} {hkv : ∀ {a b}, kv a = kv b → a = b} {w : World} {w0 : Base} {ok0 : Nat → Prop} {Γ : List It} {Λ : List LObj} {t : Option (κ × Value × List α)} {g : Nat} {x : List (κ × List α)} {b : List (GE κ α)}
theorem St.grpOpen (hs : St ok0 w0 w Γ (grpo kv A E hkv t g x :: Λ)) : ∃ b, gcont b = x ∧ St ok0 w0 w Γ (mapo kv tCell g (gout b) :: (grest A E t b ++ Λ)) := by
  obtain ⟨hB, bss, hN, hlt, hO, hA⟩ := hs
  match bss, hO with
  | [], h => exact h.elim
  | bs :: bss, hO =>
    obtain ⟨⟨b, bs1, hc, e0, hn, h1⟩, h2⟩ := hO
    subst e0
    have e : (bs1 ++ bss).flatten = (bs1.flatten :: bss).flatten := by simp
    exact ⟨b, hc, hB, bs1 ++ bss, by rw [e]; exact hN, by rw [e]; exact hlt, by rw [e]; exact Own.both h1 h2, by rw [e]; exact hA⟩
theorem St.grpClose (hs : St ok0 w0 w Γ (mapo kv tCell g (gout b) :: (grest A E t b ++ Λ))) (hc : gcont b = x) : St ok0 w0 w Γ (grpo kv A E hkv t g x :: Λ) := by
  have hs : St ok0 w0 w Γ (grpL kv A E t g b ++ Λ) := hs
  obtain ⟨hB, bss, hN, hlt, hO, hA⟩ := hs
  obtain ⟨a, c, rfl, ha, hcc⟩ := Own.part hO
  have e : (a.flatten :: c).flatten = (a ++ c).flatten := by simp
  refine ⟨hB, a.flatten :: c, by rw [e]; exact hN, by rw [e]; exact hlt, ⟨⟨b, a, hc, rfl, ?_, by rw [e]; exact ha⟩, by rw [e]; exact hcc⟩, by rw [e]; exact hA⟩
  rw [List.flatten_append] at hN
  exact (List.nodup_append.1 hN).1
theorem St.grpNew (hs : St ok0 w0 w Γ (mapo kv tCell g [] :: Λ)) : St ok0 w0 w Γ (grpo kv A E hkv none g [] :: Λ) := St.grpClose (b := []) hs rfl
theorem gkeys (b : List (GE κ α)) : (gout b).map (·.1) = b.map (·.1) := by
  unfold gout
  rw [List.map_map]
  rfl
theorem glook {k : κ} : ∀ {b : List (GE κ α)}, (gout b).lookup k = none → (gcont b).lookup k = none ∧ b.filter (fun o => !(o.1 == k)) = b ∧ ∀ o ∈ b, (k == o.1) = false
  | [], _ => ⟨rfl, rfl, by simp⟩
  | o :: b, h => by
    unfold gout at h
    rw [List.map_cons, List.lookup_cons] at h
    cases hk : k == o.1 with
    | true => simp [hk] at h
    | false =>
      simp only [hk] at h
      obtain ⟨h1, h2, h3⟩ := glook (b := b) h
      have hk2 : (o.1 == k) = false := by
        rw [beq_eq_false_iff_ne] at hk ⊢
        exact fun e => hk e.symm
      refine ⟨?_, ?_, ?_⟩
      · unfold gcont
        rw [List.map_cons, List.lookup_cons]
        simp only [hk]
        exact h1
      · rw [List.filter_cons, hk2]
        simp only [Bool.not_false, if_true, h2]
      · intro q hq
        rcases List.mem_cons.1 hq with rfl | hq
        · exact hk
        · exact h3 q hq
theorem glookS {k : κ} {v : Value} : ∀ {b : List (GE κ α)}, (b.map (·.1)).Nodup → (gout b).lookup k = some v → ∃ ys b1 b2, b = b1 ++ (k, ys, v) :: b2 ∧ (gcont b).lookup k = some ys ∧ b.filter (fun o => !(o.1 == k)) = b1 ++ b2 ∧ (∀ o ∈ b1, (k == o.1) = false)
  | [], _, h => by simp [gout] at h
  | o :: b, hn, h => by
    rw [List.map_cons, List.nodup_cons] at hn
    unfold gout at h
    rw [List.map_cons, List.lookup_cons] at h
    cases hk : k == o.1 with
    | true =>
      simp only [hk, Option.some.injEq] at h
      obtain ⟨k0, ys0, v0⟩ := o
      simp only at h hk
      have ek : k = k0 := by simpa using hk
      subst ek
      subst h
      refine ⟨ys0, [], b, rfl, ?_, ?_, by simp⟩
      · unfold gcont
        rw [List.map_cons, List.lookup_cons]
        simp
      · rw [List.filter_cons]
        simp only [beq_self_eq_true, Bool.not_true, Bool.false_eq_true, if_false, List.nil_append]
        rw [List.filter_eq_self]
        intro q hq
        simp only [Bool.not_eq_true', beq_eq_false_iff_ne]
        rintro rfl
        exact hn.1 (List.mem_map.2 ⟨q, hq, rfl⟩)
    | false =>
      simp only [hk] at h
      obtain ⟨ys, b1, b2, e, h1, h2, h3⟩ := glookS (b := b) hn.2 h
      have hk2 : (o.1 == k) = false := by
        rw [beq_eq_false_iff_ne] at hk ⊢
        exact fun e => hk e.symm
      refine ⟨ys, o :: b1, b2, by rw [e]; rfl, ?_, ?_, ?_⟩
      · unfold gcont
        rw [List.map_cons, List.lookup_cons]
        simp only [hk]
        exact h1
      · rw [List.filter_cons, hk2]
        simp only [Bool.not_false, if_true, h2]
        rfl
      · intro q hq
        rcases List.mem_cons.1 hq with rfl | hq
        · exact hk
        · exact h3 q hq
def gown (b : List (GE κ α)) (A : Ty α) (E : TypeId) : List LObj := b.map fun o => own A E o.2.2 o.2.1
theorem grest_none (b : List (GE κ α)) : grest A E none b = gown b A E := by
  unfold grest grestP gownP gown
  rw [List.map_map]
  rfl
theorem grest_some (k : κ) (v : Value) (ys : List α) (b : List (GE κ α)) : grest A E (some (k, v, ys)) b = own A E v ys :: gown (b.filter fun o => !(o.1 == k)) A E := by
  unfold grest grestP gownP gown
  rw [List.map_cons, List.map_map]
  rfl
theorem mset_at {β : Type} {b1 b2 : List (κ × β)} {k : κ} {y y' : β} (h : ∀ o ∈ b1, (k == o.1) = false) : mset (b1 ++ (k, y) :: b2) k y' = b1 ++ (k, y') :: b2 := by
  induction b1 with
  | nil => simp [mset]
  | cons o b1 ih =>
    have h0 := h o (by simp)
    rw [List.cons_append, mset, h0]
    simp only [Bool.false_eq_true, if_false]
    rw [ih fun q hq => h q (by simp [hq])]
    rfl
theorem St.keysNodup (hs : St ok0 w0 w Γ Λ) (i : Nat) {β : Type} {V : Ty β} {l : List (κ × β)} (hi : Λ[i]? = some (mapo kv V g l)) : (l.map (·.1)).Nodup := by
  obtain ⟨ok, bs, ho, _⟩ := hs.split i hi
  obtain ⟨_, es, c, _, _, _, _, h⟩ := ho
  exact h
variable {P : Program} {N : Nat} {Q : QE} {ρ : Env} {d : Option Tmp} {ty : TypeId} {pos : String} {aft : Array Edge} {gd : Option (Nat × Bool)} {ops : Array Oper} {rest : List Oper}
theorem WL.grpLook {mt kt et : TypeId} {m xo : Operand} {k : κ} (hs : St ok0 w0 w Γ (grpo kv A E hkv none g x :: Λ)) (hk : KS P kt kv) (ht : P.underlying mt = some (.map kt et)) (hm : ρ.ev m = .map (some g)) (hx : ρ.ev xo = kv k) (hz : ∀ w, (zeroValue et).run P w = .ok (.slice none 0 0) w)
    (K : ∀ v, St ok0 w0 w Γ (grpo kv A E hkv (some (k, v, (x.lookup k).getD [])) g x :: Λ) → WL P N ops Q rest (putE ρ d v) w)
    (hg : wantedE ops ρ ⟨d, .lookup mt m xo false, ty, pos, aft, gd⟩ = true := by rfl) (hd : fits N d = true := by rfl) :
    WL P N ops Q (⟨d, .lookup mt m xo false, ty, pos, aft, gd⟩ :: rest) ρ w := by
  obtain ⟨b, hc, h1⟩ := hs.grpOpen
  rw [grest_none] at h1
  have hn := h1.keysNodup 0 rfl
  rw [gkeys] at hn
  refine WL.lookupS (z0 := Value.slice none 0 0) h1 0 rfl hk ht hm hx hz (fun _ _ => tCell_V.2 ⟨rfl, rfl⟩) rfl (fun v h2 => K v ?_) hg hd
  have hv : v = ((gout b).lookup k).getD (.slice none 0 0) := h2.cellv 0 rfl
  cases hl : (gout b).lookup k with
  | none =>
    obtain ⟨q1, q2, _⟩ := glook hl
    rw [hl] at hv
    have hv : v = .slice none 0 0 := hv
    subst hv
    have h3 : St ok0 w0 w Γ (mapo kv tCell g (gout b) :: (gown b A E ++ Λ)) := h1
    have h4 := (h3.ownNil A E).perm (List.Perm.swap _ _ _)
    refine St.grpClose (b := b) ?_ hc
    rw [grest_some, q2, ← hc, q1]
    exact h4
  | some v' =>
    rw [hl] at hv
    have hv : v = v' := hv
    subst hv
    obtain ⟨ys, b1, b2, e, q1, q2, _⟩ := glookS hn hl
    refine St.grpClose (b := b) ?_ hc
    rw [grest_some, q2, ← hc, q1]
    refine h1.perm (List.Perm.cons _ ?_)
    refine List.Perm.append_right Λ ?_
    rw [e]
    unfold gown
    rw [List.map_append, List.map_cons, List.map_append]
    exact List.perm_middle
theorem WL.grpApp {T : TypeId} {z : Value} {bytes : Nat} {s xo : Operand} {k : κ} {v : Value} {ys zs us : List α} {a : Option Addr} {c : Nat} (hs : St ok0 w0 w Γ (grpo kv A E hkv (some (k, v, ys)) g x :: Λ)) (j : Nat) (hj : Γ[j]? = some (vl (tSlice A) zs (.slice a zs.length c)))
    (hT : P.underlying T = some (.slice E)) (hE : EI P E z A.sz bytes) (hsv : ρ.ev s = v) (hx : ρ.ev xo = .slice a zs.length c)
    (hb : (ys.length + zs.length) * bytes ≤ 140737488355328) (h63 : ys.length + zs.length ≤ 9223372036854775807) (hu : ys ++ zs = us)
    (K : ∀ v' w', St ok0 w0 w' Γ (grpo kv A E hkv (some (k, v', us)) g x :: Λ) → WL P N ops Q rest (putE ρ d v') w')
    (hg : wantedE ops ρ ⟨d, .call { callee := .builtin .append, args := #[s, xo], argTypes := #[T, T] }, ty, pos, aft, gd⟩ = true := by rfl) (hd : fits N d = true := by rfl) :
    WL P N ops Q (⟨d, .call { callee := .builtin .append, args := #[s, xo], argTypes := #[T, T] }, ty, pos, aft, gd⟩ :: rest) ρ w := by
  obtain ⟨b, hc, h1⟩ := hs.grpOpen
  rw [grest_some] at h1
  refine WL.appendS (zs := us) h1 1 rfl j hj hT hT hE hsv hx hb h63 hu (fun v' w' h2 => K v' w' ?_) hg hd
  refine St.grpClose (b := b) ?_ hc
  rw [grest_some]
  exact h2
theorem WL.grpPut {mt kt et : TypeId} {m xo u : Operand} {k : κ} {v : Value} {ys : List α} (hs : St ok0 w0 w Γ (grpo kv A E hkv (some (k, v, ys)) g x :: Λ)) (hk : KS P kt kv) (ht : P.underlying mt = some (.map kt et)) (hm : ρ.ev m = .map (some g)) (hx : ρ.ev xo = kv k) (hu : ρ.ev u = v)
    (K : ∀ w', St ok0 w0 w' Γ (grpo kv A E hkv none g (mset x k ys) :: Λ) → WL P N ops Q rest (putE ρ d undef) w')
    (hg : wantedE ops ρ ⟨d, .mapUpdate mt m xo u, ty, pos, aft, gd⟩ = true := by rfl) (hd : fits N d = true := by rfl) :
    WL P N ops Q (⟨d, .mapUpdate mt m xo u, ty, pos, aft, gd⟩ :: rest) ρ w := by
  obtain ⟨b, hc, h1⟩ := hs.grpOpen
  rw [grest_some] at h1
  have hn := h1.keysNodup 0 rfl
  rw [gkeys] at hn
  have hv1 : v.oneCell' = true := by
    obtain ⟨a', n', c', e⟩ := h1.ownv3 1 rfl
    rw [e]
    rfl
  cases hl : (gout b).lookup k with
  | none =>
    obtain ⟨q1, q2, q3⟩ := glook hl
    rw [q2] at h1
    refine WL.mapUpdateS (V := tCell) (y := v) h1 0 rfl hk ht hm hx hu (fun _ _ => tCell_V.2 ⟨rfl, hv1⟩) (mset_none hl) (fun w' h2 => K w' ?_) hg hd
    refine St.grpClose (b := b ++ [(k, ys, v)]) ?_ ?_
    · rw [grest_none]
      have e1 : gout (b ++ [(k, ys, v)]) = gout b ++ [(k, v)] := by unfold gout; rw [List.map_append]; rfl
      have e2 : gown (b ++ [(k, ys, v)]) A E = gown b A E ++ [own A E v ys] := by unfold gown; rw [List.map_append]; rfl
      rw [e1, e2]
      have h3 : St ok0 w0 w' Γ (mapo kv tCell g (gout b ++ [(k, v)]) :: (own A E v ys :: gown b A E ++ Λ)) := h2
      refine h3.perm (List.Perm.cons _ (List.Perm.append_right Λ ?_))
      exact List.perm_append_comm (l₁ := [own A E v ys])
    · rw [← hc]
      unfold gcont at q1 ⊢
      rw [mset_none q1, List.map_append]
      rfl
  | some v' =>
    obtain ⟨ys', b1, b2, e, q1, q2, q3⟩ := glookS hn hl
    rw [q2] at h1
    subst e
    have em : ∀ (f : List α → Value → Value) , True := fun _ => trivial
    have eg : gout (b1 ++ (k, ys', v') :: b2) = gout b1 ++ (k, v') :: gout b2 := by unfold gout; rw [List.map_append, List.map_cons]
    have eg2 : gout (b1 ++ (k, ys, v) :: b2) = gout b1 ++ (k, v) :: gout b2 := by unfold gout; rw [List.map_append, List.map_cons]
    have hq : ∀ o ∈ gout b1, (k == o.1) = false := by
      intro o ho
      obtain ⟨q, hq, rfl⟩ := List.mem_map.1 ho
      exact q3 q hq
    refine WL.mapUpdateS (V := tCell) (y := v) (l' := gout (b1 ++ (k, ys, v) :: b2)) h1 0 rfl hk ht hm hx hu (fun _ _ => tCell_V.2 ⟨rfl, hv1⟩) (by rw [eg, eg2]; exact mset_at hq) (fun w' h2 => K w' ?_) hg hd
    refine St.grpClose (b := b1 ++ (k, ys, v) :: b2) ?_ ?_
    · rw [grest_none]
      have h3 : St ok0 w0 w' Γ (mapo kv tCell g (gout (b1 ++ (k, ys, v) :: b2)) :: (own A E v ys :: gown (b1 ++ b2) A E ++ Λ)) := h2
      refine h3.perm (List.Perm.cons _ (List.Perm.append_right Λ ?_))
      unfold gown
      rw [List.map_append, List.map_append, List.map_cons]
      exact List.perm_middle.symm
    · rw [← hc]
      have c1 : gcont (b1 ++ (k, ys', v') :: b2) = gcont b1 ++ (k, ys') :: gcont b2 := by unfold gcont; rw [List.map_append, List.map_cons]
      have c2 : gcont (b1 ++ (k, ys, v) :: b2) = gcont b1 ++ (k, ys) :: gcont b2 := by unfold gcont; rw [List.map_append, List.map_cons]
      rw [c1, c2]
      refine (mset_at fun o ho => ?_).symm
      obtain ⟨q, hq', rfl⟩ := List.mem_map.1 ho
      exact q3 q hq'
def gits (b : List (GE κ α)) (A : Ty α) : List It := b.map fun o => vl (tSlice A) o.2.1 o.2.2
theorem St.gfreeze {L1 : List LObj} : ∀ {b : List (GE κ α)} {Γ : List It}, St ok0 w0 w Γ (L1 ++ (gown b A E ++ Λ)) → St ok0 w0 w (gits b A ++ Γ) (L1 ++ Λ)
  | [], Γ, h => h
  | o :: b, Γ, h => by
    have hi : (L1 ++ (gown (o :: b) A E ++ Λ))[L1.length]? = some (own A E o.2.2 o.2.1) := by
      rw [List.getElem?_append_right (Nat.le_refl _), Nat.sub_self]
      rfl
    have h2 := h.freezeOwn L1.length hi
    have e : (L1 ++ (gown (o :: b) A E ++ Λ)).eraseIdx L1.length = L1 ++ (gown b A E ++ Λ) := by
      rw [List.eraseIdx_append_of_length_le (Nat.le_refl _), Nat.sub_self]
      rfl
    rw [e] at h2
    refine (St.gfreeze (b := b) h2).sub fun it hit => ?_
    rcases List.mem_append.1 hit with hit | hit
    · rcases List.mem_cons.1 hit with rfl | hit
      · exact List.mem_append.2 (.inr (List.mem_cons_self ..))
      · exact List.mem_append.2 (.inl hit)
    · exact List.mem_append.2 (.inr (List.mem_cons_of_mem _ hit))
theorem ents_slices {ok : Nat → Prop} : ∀ {b : List (GE κ α)} {es : List MapEntry}, Ents kv tCell ok w (gout b) es → (∀ it ∈ gits b A, it.holds ok w) → Ents kv (tSlice A) ok w (gcont b) es
  | [], [], _, _ => trivial
  | o :: b, e :: es, ⟨h1, h2, h3⟩, h => by
    refine ⟨h1, ?_, ents_slices h3 fun it hit => h it (List.mem_cons_of_mem _ hit)⟩
    rw [(tCell_V.1 h2).1]
    exact h _ (List.mem_cons_self ..)
  | [], _ :: _, h, _ => h.elim
  | _ :: _, [], h, _ => h.elim
theorem St.grpDone (hs : St ok0 w0 w Γ (grpo kv A E hkv none g x :: Λ)) : St ok0 w0 w Γ (mapo kv (tSlice A) g x :: Λ) := by
  obtain ⟨b, hc, h1⟩ := hs.grpOpen
  rw [grest_none] at h1
  have h2 : St ok0 w0 w (gits b A ++ Γ) (mapo kv tCell g (gout b) :: Λ) := St.gfreeze (L1 := [mapo kv tCell g (gout b)]) h1
  obtain ⟨ok, bs, ho, hA, hn, hbs, hput⟩ := h2.split 0 rfl
  obtain ⟨rfl, es, c, hh, he, hb1, hb2, hnd⟩ := ho
  have h3 := hput (mapo kv (tSlice A) g x) [g] w (Off.refl_ _ _) (by simp) (fun k hk => ⟨.inl hk, (hbs k hk).2.2⟩) fun ok' hm => by
    refine ⟨rfl, es, c, hh, ?_, hb1, hb2, ?_⟩
    · rw [← hc]
      exact Ents.move hm (ents_slices he fun it hit => hA it (List.mem_append.2 (.inl hit)))
    · rw [← hc]
      have : (gcont b).map (·.1) = (gout b).map (·.1) := by unfold gcont gout; rw [List.map_map, List.map_map]; rfl
      rw [this]
      exact hnd
  exact St.sub h3 fun it hit => List.mem_append.2 (.inr hit)
end
end Go.Proofs.YtpfgdjfiimknlaaL
set_option linter.unusedVariables false
set_option linter.unusedSimpArgs false
set_option linter.unnecessarySimpa false
namespace Go.Proofs.YtpfgdjfiimknlaaL
open Go Go.RowKit
section
variable {P : Program} {N : Nat} {Q : QE} {ρ ρ0 : Env} {w w1 : World} {w0 : Base} {l : List Oper} {ok0 : Nat → Prop} {Γ : List It} {Λ : List LObj}
end
end Go.Proofs.YtpfgdjfiimknlaaL
set_option linter.unusedVariables false
set_option linter.unusedSimpArgs false
set_option linter.unnecessarySimpa false
namespace Go.Proofs.YtpfgdjfiimknlaaL
open Go Go.RowKit
theorem St.backR {ok0 : Nat → Prop} {w0 : Base} {w : World} {Γ : List It} {Λ Λx : List LObj} {a : LObj} (hs : St ok0 w0 w Γ (Λx ++ ([a] ++ Λ))) : St ok0 w0 w Γ ([a] ++ (Λx ++ Λ)) := hs.perm List.perm_middle
section
variable {l : List Oper} {m : Nat} {tk br : Nat → List Nat}
end
section
variable {P : Program} {N : Nat} {Q : QE} {ρ ρ0 : Env} {w w1 : World} {w0 : Base} {l : List Oper} {ok0 : Nat → Prop} {Γ : List It} {Λ : List LObj}
end
end Go.Proofs.YtpfgdjfiimknlaaL
set_option linter.unusedVariables false
set_option linter.unusedSimpArgs false
set_option linter.unnecessarySimpa false
namespace Go.Proofs.YtpfgdjfiimknlaaL
open Go Go.RowKit
section
variable {P : Program} {N : Nat} {Q : QE} {ρ ρ0 : Env} {w w1 : World} {l : List Oper}
def oblI (P : Program) (N : Nat) (l : List Oper) (I : World → Prop) (ρ0 : Env) (po : Nat → Value → Prop) (m i : Nat) : Prop :=
  match l[i]? with
  | none => True
  | some o => ∀ ρ w, I w → (∀ s, notDst (l.take m) s = true → ρ s = ρ0 s) → (∀ j, reach l l.length i j = true → po j (slotOf ρ (dstOf l j))) →
      WL P N l.toArray (oneQ ρ o.dst fun v w' => po i (valOf o.dst v) ∧ I w') [o] ρ w
theorem W.anyI {I : World → Prop} (hI0 : ∀ w, I w → I w.drew) {id : Nat} (hm : P.follows .mixedOrders = true) (m F : Nat) (B : List Bool) (hF : l.length - m = F) (hB : maskTo l.length m = B) (po : Nat → Value → Prop) (hs : I w1) (hok : anyOkT l m = true) (hdd : distinctDst l = true)
    (hops : upTo (oblI P N l I ρ0 po m) m)
    (hfin : ∀ ρ w, I w → (∀ s, notDst (l.take m) s = true → ρ s = ρ0 s) → upTo (fun i => po i (slotOf ρ (dstOf l i))) m → WA P N l Q F B ρ w) :
    W P N (.region id l.toArray true) Q ρ0 w1 := by
  intro a0 ha0
  refine wp_region_any hm ?_
  let InvA : Array Bool → Act → World → Prop := fun listed a w => ∃ (ρ : Env), Agree N a ρ ∧ I w ∧ (∀ s, notDst (l.take m) s = true → ρ s = ρ0 s) ∧
    (∀ i, listed.getD i false = true → i < m ∧ po i (slotOf ρ (dstOf l i)))
  have hsz : l.toArray.size = l.length := by simp
  have finish : ∀ listed a w, InvA listed a w → (∀ i, i < m → listed.getD i false = true) → wpAny P .any l.toArray (lift N Q) F B.toArray a w := by
    rintro listed a w ⟨ρ, hρ, hst, hu, hp⟩ hall
    exact hfin ρ w hst hu (upTo.mk m fun i hi => (hp i (hall i hi)).2) a hρ
  have hdeps : ∀ {listed : Array Bool} {i : Nat}, i ∈ Region.ready .any l.toArray listed → i < l.length ∧ listed.getD i true = false ∧ ∀ d ∈ depsOf l i, listed.getD d false = true := by
    intro listed i hi
    rw [mem_ready] at hi
    obtain ⟨h0, o, ho, hall⟩ := hi
    have ho' : l[i]? = some o := by simpa using ho
    refine ⟨(List.getElem?_eq_some_iff.1 ho').1, h0, fun d hd => ?_⟩
    simp only [depsOf, ho', Option.map_some, Option.getD_some, List.mem_map, List.mem_filter] at hd
    obtain ⟨e, ⟨he, hb⟩, rfl⟩ := hd
    exact hall e (by simpa using he) hb
  have hready : ∀ {listed : Array Bool}, Region.ready .any l.toArray listed = [] → listed.size = l.length → ∀ i, i < l.length → listed.getD i false = true := by
    intro listed hr hls i
    induction i using Nat.strongRecOn with
    | _ i ih =>
      intro hi
      cases hb : listed.getD i false with
      | true => rfl
      | false =>
        exfalso
        have hin : i ∈ Region.ready .any l.toArray listed := by
          rw [mem_ready]
          refine ⟨?_, l[i], by simp [hi], fun e he hbd => ?_⟩
          · have : i < listed.size := by omega
            simp [this] at hb ⊢
            exact hb
          · have hd : e.on ∈ depsOf l i := by
              simp only [depsOf, List.getElem?_eq_getElem hi, Option.map_some, Option.getD_some, List.mem_map, List.mem_filter]
              exact ⟨e, ⟨by simpa using he, hbd⟩, rfl⟩
            have hlt := anyOkT_lt hok hi hd
            exact ih e.on hlt (by omega)
        rw [hr] at hin
        cases hin
  have hset : ∀ {listed : Array Bool} {i j : Nat}, listed.size = l.length → i < l.length → ((listed.setIfInBounds i true).getD j false = true ↔ (j = i ∨ listed.getD j false = true)) := by
    intro listed i j hls hi
    by_cases hij : i = j
    · subst hij
      have : i < listed.size := by omega
      simp [this]
    · rw [getD_set_ne false hij]
      constructor
      · exact .inr
      · rintro (h | h)
        · exact absurd h.symm hij
        · exact h
  have main : ∀ fuel listed a w, listed.size = l.length → leftOf listed l.length = fuel →
      (∀ k, listed.getD k false = true → ∀ d ∈ depsOf l k, listed.getD d false = true) → InvA listed a w → wpAny P .any l.toArray (lift N Q) fuel listed a w := by
    intro fuel
    induction fuel with
    | zero =>
      intro listed a w hls hlf hcl hI
      have hall : ∀ i, i < l.length → listed.getD i false = true := by
        intro i hi
        have h1 := leftOf_zero hlf i hi
        have : i < listed.size := by omega
        simp [this] at h1 ⊢
        exact h1
      refine ⟨?_, ?_⟩
      · cases hr : Region.ready .any l.toArray listed with
        | nil => rfl
        | cons i rs =>
          exfalso
          obtain ⟨h1, h2, _⟩ := hdeps (listed := listed) (i := i) (by rw [hr]; simp)
          rw [leftOf_zero hlf i h1] at h2
          cases h2
      · have hmn : m = l.length := by
          obtain ⟨ρ, hρ, hst, hu, hp⟩ := hI
          rcases Nat.lt_or_ge m l.length with h | h
          · have := (hp m (hall m h)).1; omega
          · have := anyOkT_le hok; omega
        have h0 := finish listed a w hI fun i hi => hall i (by omega)
        have hF0 : F = 0 := by omega
        subst hF0
        exact h0.2
    | succ fuel ih =>
      intro listed a w hls hlf hcl hI
      have hne : Region.ready .any l.toArray listed ≠ [] := by
        intro hr
        have hall := hready hr hls
        have : ∀ n, n ≤ l.length → leftOf listed n = 0 := by
          intro n
          induction n with
          | zero => exact fun _ => rfl
          | succ n ihn =>
            intro hn
            have h1 := hall n (by omega)
            have : n < listed.size := by omega
            have h2 : listed.getD n true = true := by simp [this] at h1 ⊢; exact h1
            rw [leftOf, ihn (by omega), h2]; rfl
        rw [this l.length (Nat.le_refl _)] at hlf
        cases hlf
      refine ⟨fun hr => absurd hr hne, fun i hi => ?_⟩
      obtain ⟨hin, hi0, hid⟩ := hdeps hi
      have hri : ∀ j, reach l l.length i j = true → listed.getD j false = true := fun j hj => reach_listed hcl _ i j hid hj
      have ho : l[i]? = some l[i] := List.getElem?_eq_getElem hin
      have ho2 : l.toArray[i]? = some l[i] := by simpa using ho
      have hls' : (listed.setIfInBounds i true).size = l.length := by simpa using hls
      have hlf' : leftOf (listed.setIfInBounds i true) l.length = fuel := by
        have := leftOf_set hi0 l.length
        rw [if_pos hin] at this
        omega
      have hcl' : ∀ k, (listed.setIfInBounds i true).getD k false = true → ∀ d ∈ depsOf l k, (listed.setIfInBounds i true).getD d false = true := by
        intro k hk d hd
        rcases (hset hls hin).1 hk with rfl | hk
        · exact getD_set_true (hid d hd)
        · exact getD_set_true (hcl k hk d hd)
      have hif : listed.getD i false = false := by
        have : i < listed.size := by omega
        simp [this] at hi0 ⊢
        exact hi0
      rcases Nat.lt_or_ge i m with him | him
      · obtain ⟨ρ, hρ, hst, hu, hp⟩ := hI
        have hob := hops.at_ i him
        unfold oblI at hob
        rw [ho] at hob
        refine wpOp_of_WL ho2 hρ (hob ρ w hst hu fun j hj => (hp j (hri j hj)).2) fun a' v w' ha' hR => ih _ a' w' hls' hlf' hcl' ?_
        have hdi : dstOf l i = l[i].dst := by simp [dstOf, ho]
        have hsame : ∀ j, j ≠ i → slotOf (putE ρ l[i].dst v) (dstOf l j) = slotOf ρ (dstOf l j) := fun j hj => slot_put fun t ht e => hj (distinct_of hdd e (hdi.trans ht))
        refine ⟨_, ha', hR.2, fun s hsn => ?_, fun j hj => ?_⟩
        · cases hd : l[i].dst with
          | none => exact hu s hsn
          | some t =>
            have : s ≠ t := by
              rintro rfl
              exact notDst_of hsn (i := i) (by simp [dstOf, List.getElem?_take, him, ho, hd])
            show upd ρ t v s = ρ0 s
            rw [upd_ne _ _ this]
            exact hu s hsn
        · by_cases hji : j = i
          · subst hji
            refine ⟨him, ?_⟩
            rw [hdi, slot_val]
            exact hR.1
          · have hj' := ((hset hls hin).1 hj).resolve_left hji
            rw [hsame j hji]
            exact hp j hj'
      · have hall : ∀ j, j < m → listed.getD j false = true := fun j hj => hri j (anyOkT_all hok hin him hj)
        have h0 := finish listed a w hI hall
        obtain ⟨ρ, hρ, hst, hu, hp⟩ := hI
        have hl2 : ∀ j, j < l.length → (listed.getD j false = true ↔ j < m) := fun j hj => ⟨fun h => (hp j h).1, fun h => hall j h⟩
        have e1 := listed_mask l.length m hls hl2
        have e2 := leftOf_mask l.length m (anyOkT_le hok) hls hl2
        have e3 : F = fuel + 1 := by omega
        rw [← hB, ← e1, e3] at h0
        exact h0.2 i hi
  have hfull : leftOf (Array.replicate l.length false) l.length = l.length := by
    have : ∀ n, n ≤ l.length → leftOf (Array.replicate l.length false) n = n := by
      intro n
      induction n with
      | zero => exact fun _ => rfl
      | succ n ih =>
        intro hn
        have h2 : (Array.replicate l.length false).getD n true = false := by
          have : n < l.length := by omega
          simp [this]
        rw [leftOf, ih (by omega), h2]; rfl
    exact this _ (Nat.le_refl _)
  have hnone : ∀ i, (Array.replicate l.length false).getD i false ≠ true := by
    intro i hi
    rcases Nat.lt_or_ge i l.length with h | h <;> simp [h] at hi
  suffices hgo : InvA (Array.replicate l.length false) a0 { w1 with drawn := w1.drawn + 1 } by
    have := main l.length (Array.replicate l.length false) a0 { w1 with drawn := w1.drawn + 1 } (by simp) hfull (fun k hk => absurd hk (hnone k)) hgo
    simpa using this
  exact ⟨ρ0, ha0, hI0 _ hs, fun _ _ => rfl, fun i hi => absurd hi (hnone i)⟩
end
def Gr (W w : World) : Prop := ∃ q os, w = Go.Sort.grow (W.drewN q) os
theorem Gr.refl (W : World) : Gr W W := ⟨0, #[], by cases W; simp [Go.Sort.grow, World.drewN]⟩
theorem Gr.drew {W w : World} (h : Gr W w) : Gr W w.drew := by
  obtain ⟨q, os, rfl⟩ := h
  exact ⟨q + 1, os, by simp [Go.Sort.grow, World.drewN, World.drew, Nat.add_assoc]⟩
theorem Gr.alloc {W w : World} (h : Gr W w) (o : Obj) : Gr W (w.alloc o) := by
  obtain ⟨q, os, rfl⟩ := h
  exact ⟨q, os.push o, by simp [Go.Sort.grow, World.drewN, World.alloc]⟩
theorem Gr.trans {A B C : World} (h : Gr A B) (k : Gr B C) : Gr A C := by
  obtain ⟨q, os, rfl⟩ := h
  obtain ⟨q', os', rfl⟩ := k
  exact ⟨q + q', os ++ os', by simp [Go.Sort.grow, World.drewN, Nat.add_assoc]⟩
theorem Gr.block {W w : World} (h : Gr W w) {g : Nat} (hg : g < W.heap.size) : w.heap[g]? = W.heap[g]? := by
  obtain ⟨q, os, rfl⟩ := h
  show (W.heap ++ os)[g]? = _
  rw [Array.getElem?_append_left hg]
theorem Gr.size {W w : World} (h : Gr W w) : W.heap.size ≤ w.heap.size := by
  obtain ⟨q, os, rfl⟩ := h
  show _ ≤ (W.heap ++ os).size
  simp
section
variable {P : Program} {N : Nat} {Q : QE} {ρ : Env} {w : World} {ops : Array Oper} {rest : List Oper}
variable {d : Option Tmp} {ty : TypeId} {pos : String} {aft : Array Edge} {gd : Option (Nat × Bool)}
theorem WL.boxE {t : TypeId} {x : Operand} {v : Value} {vs : List Value} (hx : ρ.ev x = v) (hv : v.cells = vs.toArray)
    (K : WL P N ops Q rest (putE ρ d (.pointer (some ⟨w.heap.size, 0, none⟩))) (w.alloc (.cells vs.toArray t)))
    (hg : wantedE ops ρ ⟨d, .box t x, ty, pos, aft, gd⟩ = true := by rfl) (hd : fits N d = true := by rfl) :
    WL P N ops Q (⟨d, .box t x, ty, pos, aft, gd⟩ :: rest) ρ w :=
  WL.value hg hd (v := .pointer (some ⟨w.heap.size, 0, none⟩)) (w' := w.alloc (.cells vs.toArray t)) (by
    show (do pure (Next.value (← Instr.box t (ρ.ev x))) : Sem Next).run P w = _
    rw [hx]
    refine exec_v ?_
    unfold Instr.box newVar
    rw [hv]
    rfl) K
theorem WL.loadE {t : TypeId} {x : Operand} {g j : Nat} {T : TypeId} {cs : List Value} {v : Value} {sz : Nat} (hb : w.heap[g]? = some (.cells cs.toArray T (0, 0))) (ht : TI P t false sz)
    (hx : ρ.ev x = .pointer (some ⟨g, j, none⟩)) (hv : cs[j]? = some v) (K : WL P N ops Q rest (putE ρ d v) w)
    (hg : wantedE ops ρ ⟨d, .load t x, ty, pos, aft, gd⟩ = true := by rfl) (hd : fits N d = true := by rfl) :
    WL P N ops Q (⟨d, .load t x, ty, pos, aft, gd⟩ :: rest) ρ w := WL.load_ hx (run_loadVar1 ht ((blk_cell hb j).trans hv)) K hg hd
theorem WL.loadNE {t : TypeId} {x : Operand} {g j : Nat} {T : TypeId} {cs vs : List Value} {sz : Nat} (hb : w.heap[g]? = some (.cells cs.toArray T (0, 0))) (ht : TI P t true sz)
    (hx : ρ.ev x = .pointer (some ⟨g, j, none⟩)) (hv : (cs.drop j).take sz = vs) (hl : vs.length = sz) (K : WL P N ops Q rest (putE ρ d (.agg vs.toArray)) w)
    (hg : wantedE ops ρ ⟨d, .load t x, ty, pos, aft, gd⟩ = true := by rfl) (hd : fits N d = true := by rfl) :
    WL P N ops Q (⟨d, .load t x, ty, pos, aft, gd⟩ :: rest) ρ w :=
  WL.load_ hx (run_loadVarN ht hl fun k u hu => by
    rw [← hv, List.getElem?_take] at hu
    split at hu
    · rw [List.getElem?_drop] at hu
      exact (blk_cell hb (j + k)).trans hu
    · cases hu) K hg hd
theorem WL.buildSliceE {t E : TypeId} {n : Nat} {parts : List (Nat × Operand)} {vs : List (Nat × Value)} {cs : List Value} (ha : EvsN ρ parts vs) (hb : BLS P t n vs E cs)
    (K : WL P N ops Q rest (putE ρ d (.slice (some ⟨w.heap.size, 0, none⟩) n n)) (w.alloc (.cells cs.toArray E)))
    (hg : wantedE ops ρ ⟨d, .buildSlice t n parts.toArray, ty, pos, aft, gd⟩ = true := by rfl) (hd : fits N d = true := by rfl) :
    WL P N ops Q (⟨d, .buildSlice t n parts.toArray, ty, pos, aft, gd⟩ :: rest) ρ w :=
  WL.value hg hd (v := .slice (some ⟨w.heap.size, 0, none⟩) n n) (w' := w.alloc (.cells cs.toArray E)) (by
    show (do pure (Next.value (← Instr.buildSlice t n (parts.toArray.map fun (i, x) => (i, ρ.ev x)))) : Sem Next).run P w = _
    rw [List.map_toArray, ha.map]
    exact exec_v (hb w)) K
theorem WL.callQ {f : FuncId} {args : List Operand} {ats : Array TypeId} {vs : List Value} {u : Value} (hf : FN P f) (ha : Evs ρ args vs)
    (hc : Calls P f vs.toArray w fun e w' => ∃ v, e = .returned v ∧ v = u ∧ w' = w) (K : WL P N ops Q rest (putE ρ d u) w)
    (hg : wantedE ops ρ ⟨d, .call { callee := .value (.func f), args := args.toArray, argTypes := ats }, ty, pos, aft, gd⟩ = true := by rfl) (hd : fits N d = true := by rfl) :
    WL P N ops Q (⟨d, .call { callee := .value (.func f), args := args.toArray, argTypes := ats }, ty, pos, aft, gd⟩ :: rest) ρ w := by
  refine WL.enter hg hd (w' := w) (f := f) (args := vs.toArray) (R := fun v w' => v = u ∧ w' = w) ?_ hc ?_
  · show (invoke (.fn (.func f) #[]) (#[] ++ args.toArray.map ρ.ev)).run P w = _
    rw [List.map_toArray, ha.map]
    simpa [invoke] using hf vs.toArray w
  · rintro v w' ⟨rfl, rfl⟩
    exact K
theorem WL.callE {f : FuncId} {args : List Operand} {ats : Array TypeId} {vs : List Value} {R : Value → World → Prop} (hf : FN P f) (ha : Evs ρ args vs)
    (hc : Calls P f vs.toArray w fun e w' => ∃ v, e = .returned v ∧ R v w') (K : ∀ v w', R v w' → WL P N ops Q rest (putE ρ d v) w')
    (hg : wantedE ops ρ ⟨d, .call { callee := .value (.func f), args := args.toArray, argTypes := ats }, ty, pos, aft, gd⟩ = true := by rfl) (hd : fits N d = true := by rfl) :
    WL P N ops Q (⟨d, .call { callee := .value (.func f), args := args.toArray, argTypes := ats }, ty, pos, aft, gd⟩ :: rest) ρ w := by
  refine WL.enter hg hd (w' := w) (f := f) (args := vs.toArray) (R := R) ?_ hc K
  show (invoke (.fn (.func f) #[]) (#[] ++ args.toArray.map ρ.ev)).run P w = _
  rw [List.map_toArray, ha.map]
  simpa [invoke] using hf vs.toArray w
theorem WL.callT {f : FuncId} {fo : Operand} {args : List Operand} {ats : Array TypeId} {vs : List Value} {R : Value → World → Prop} (hfo : ρ.ev fo = .func (.func f) #[] #[]) (hf : FN P f) (ha : Evs ρ args vs)
    (hc : Calls P f vs.toArray w fun e w' => ∃ v, e = .returned v ∧ R v w') (K : ∀ v w', R v w' → WL P N ops Q rest (putE ρ d v) w')
    (hg : wantedE ops ρ ⟨d, .call { callee := .value fo, args := args.toArray, argTypes := ats }, ty, pos, aft, gd⟩ = true := by rfl) (hd : fits N d = true := by rfl) :
    WL P N ops Q (⟨d, .call { callee := .value fo, args := args.toArray, argTypes := ats }, ty, pos, aft, gd⟩ :: rest) ρ w := by
  refine WL.enter hg hd (w' := w) (f := f) (args := vs.toArray) (R := R) ?_ hc K
  unfold execOp
  simp only [resolve, hfo]
  show (invoke (.fn (.func f) #[]) (#[] ++ args.toArray.map ρ.ev)).run P w = _
  rw [List.map_toArray, ha.map]
  simpa [invoke] using hf vs.toArray w
end
end Go.Proofs.YtpfgdjfiimknlaaL
set_option linter.unusedVariables false
set_option linter.unusedSimpArgs false
set_option linter.unnecessarySimpa false
set_option linter.unusedSectionVars false
namespace Go.Proofs.YtpfgdjfiimknlaaL
open Go Go.RowKit Go.Shelf Go.Sort Go.Lib
section
variable {P : Program} {ρ : Ren} {α : Type} {w0 : World} {F : Base} {ok : Nat → Prop}
abbrev Hk (A : Ty α) (okr : Nat → Prop) (w : World) : Type := { p : List Value × α // A.R okr w p.2 p.1 }
theorem sort_callsK (L : Go.Proofs.SlLaysF0.n6 P ρ) {A : Ty α} {E : TypeId} (h0 : 0 < A.sz)
    (aE : ∀ w, (isAgg (ρ.t 24)).run P w = .ok true w) (zE : ∀ w, (Go.sizeOf (ρ.t 24)).run P w = .ok A.sz w) (cf : α → α → Int) (hO : SWO (Go.Proofs.ltOf cf)) (g : Nat) (eg : ∀ args w, (callFunc g args).run P w = .ok (.enter g args) w)
    (hcmp : ∀ (ok : Nat → Prop) (W : World) (x y : α) (cs ds : List Value), A.R ok W x cs → A.R ok W y ds → Calls P g #[.agg cs.toArray, .agg ds.toArray] W fun e w' => e = .returned (.int .i64 (cf x y)) ∧ Gr W w')
    {a : Option Addr} {n c : Nat} {xs ys : List α} (hs : St ok F w0 [] [own A E (.slice a n c) xs]) (hf : sortU (Go.Proofs.ltOf cf) xs = some ys) :
    Calls P (ρ.f 6) #[.slice a n c, .func (.func g) #[] #[]] w0 fun e w' => ∃ v, e = .returned v ∧ ∃ y : Unit, v = .tuple #[] ∧ St ok F w' [] [own A E (.slice a n c) ys] := by
  obtain rfl := hs.ownLen 0 rfl
  have hys := sortU_perm hf
  have hsrt := sortU_sorted hO hf
  obtain ⟨⟨hpw, hsize⟩, _⟩ := guardE hf
  rcases Nat.eq_zero_or_pos xs.length with hz | hz
  · have hx0 : xs = [] := List.length_eq_zero_iff.1 hz
    subst hx0
    have hy0 : ys = [] := hys.eq_nil
    subst hy0
    refine (Go.Proofs.AnyF.slices_SortFunc_none (L := { L with }) a c (.func (.func g) #[] #[]) w0).mono ?_
    rintro e w' ⟨rfl, rfl⟩
    exact ⟨_, rfl, (), rfl, hs⟩
  obtain ⟨okr, bs, ho, hA, hn, hbs, hput⟩ := hs.split 0 rfl
  obtain ⟨gb, c', cur, e, hb, hgh, hc', hmx, hsz, hC⟩ := own_some ho hz
  cases e
  have hgbk : ¬ okr gb := (hbs gb (by rw [hb]; simp)).1
  have hcl : xs.length * A.sz ≤ cur.size := by rw [hsz]; exact Nat.mul_le_mul_right _ hc'
  let cellsAt : Nat → List Value := fun i => ((cur.toList.take (xs.length * A.sz)).drop (i * A.sz)).take A.sz
  have hel : ∀ i (hi : i < xs.length), A.R okr w0 xs[i] (cellsAt i) := fun i hi => hC.2 i xs[i] (List.getElem?_eq_getElem hi)
  have : Inhabited (Hk A okr w0) := ⟨⟨(cellsAt 0, xs[0]), hel 0 hz⟩⟩
  let enc : Hk A okr w0 → List Value := fun p => p.1.1
  have hk : ∀ p : Hk A okr w0, (enc p).length = A.sz := fun p => A.len p.2
  have h1 : ∀ p : Hk A okr w0, ∀ v ∈ enc p, v.oneCell' = true := fun p => A.one p.2
  let d : Array (Hk A okr w0) := Array.ofFn fun i : Fin xs.length => ⟨(cellsAt i.1, xs[i.1]), hel i.1 i.2⟩
  have hds : d.size = xs.length := Array.size_ofFn
  have hdg : ∀ i (hi : i < xs.length), (d[i]!).1 = (cellsAt i, xs[i]) := by
    intro i hi
    rw [getElem!_pos d i (by omega)]
    exact congrArg (fun p : Hk A okr w0 => p.1) (Array.getElem_ofFn _)
  have hdm : d.toList.map (fun p => p.1.2) = xs := by
    apply List.ext_getElem
    · simp [hds]
    · intro i h1 h2
      have := hdg i h2
      rw [getElem!_pos d i (by omega)] at this
      simp only [List.getElem_map, Array.getElem_toList, this]
  have hH : HoldsK enc A.sz w0 gb 0 d := by
    intro j hj
    rw [size_flatK, hds] at hj
    have hjd : j / A.sz < xs.length := Nat.div_lt_of_lt_mul (by rw [Nat.mul_comm]; exact hj)
    have hjm : j % A.sz < A.sz := Nat.mod_lt _ h0
    rw [get_flatK _ _ _ _ (by rw [hds]; exact hj), Nat.zero_add]
    have hcell : cur.toList[j]? = (cellsAt (j / A.sz))[j % A.sz]? := by
      show _ = (((cur.toList.take (xs.length * A.sz)).drop (j / A.sz * A.sz)).take A.sz)[j % A.sz]?
      rw [List.getElem?_take, if_pos hjm, List.getElem?_drop, List.getElem?_take, Nat.div_add_mod' j A.sz, if_pos hj]
    refine ⟨?_, by simp [World.frozen?, hgh]⟩
    simp only [World.cell?, hgh]
    have e1 : enc (d[j / A.sz]!) = cellsAt (j / A.sz) := by show (d[j / A.sz]!).1.1 = _; rw [hdg _ hjd]
    rw [e1]
    have hlen : (cellsAt (j / A.sz)).length = A.sz := A.len (hel _ hjd)
    have e2 : (cellsAt (j / A.sz))[j % A.sz]! = (cellsAt (j / A.sz))[j % A.sz]'(by rw [hlen]; exact hjm) := getElem!_pos _ _ _
    have e3 : cur[j]? = some ((cellsAt (j / A.sz))[j % A.sz]'(by rw [hlen]; exact hjm)) := by
      rw [← Array.getElem?_toList, hcell]
      exact List.getElem?_eq_getElem _
    rw [e2]
    simpa using e3
  have hO' : SWO (Go.Proofs.ltOf fun p q : Hk A okr w0 => cf p.1.2 q.1.2) := ⟨fun x => hO.irrefl _, fun x y z => hO.trans _ _ _, fun x y z => hO.ntrans _ _ _⟩
  have hkeep : ∀ (m : Nat) (os : Array Obj) (dk : Array (Hk A okr w0)) (b : Nat), b ≠ gb → b < w0.heap.size → (Go.Proofs.sortWorldK enc A.sz w0 gb 0 m dk os).heap[b]? = w0.heap[b]? := by
    intro m os dk b hne hlt
    simp only [Go.Proofs.sortWorldK, grow, putRowK, putRow, mapBlock, ahead]
    rw [Array.getElem?_append_left (by simpa using hlt), Array.getElem?_modify, if_neg (fun e => hne e.symm)]
    rfl
  have hlay : Go.Proofs.CmpLays P g #[] enc A.sz (fun p q => cf p.1.2 q.1.2) gb 0 d.size w0 := by
    intro m os dk hdk x y
    have hmv : ∀ b, okr b → b < w0.heap.size → (Go.Proofs.sortWorldK enc A.sz w0 gb 0 m dk os).heap[b]? = w0.heap[b]? ∧ okr b := fun b hb1 hb2 => ⟨hkeep m os dk b (fun e => hgbk (e ▸ hb1)) hb2, hb1⟩
    exact hcmp okr _ x.1.2 y.1.2 x.1.1 y.1.1 (A.move x.2 hmv) (A.move y.2 hmv)
  have hmain := Go.Proofs.AnyQ.slices_SortFunc L A.sz aE zE enc hk h1 (fun p q => cf p.1.2 q.1.2) hO' g #[] gb 0 c d w0 eg hlay hH (lt_of_some hgh) (by rw [hds]; simpa using hsize)
  rw [hds] at hmain
  refine hmain.mono ?_
  rintro e w' ⟨rfl, d', q, os, hperm, hsorted, rfl⟩
  obtain ⟨hp1, _, hp3⟩ := hperm
  have hd' : d'.size = xs.length := hp1.trans hds
  have hpe : d'.toList.Perm d.toList := by
    have e1 : (d'.extract 0 xs.length).toList = d'.toList := by rw [← hd']; simp
    have e2 : (d.extract 0 xs.length).toList = d.toList := by rw [← hds]; simp
    rw [e1, e2] at hp3
    exact hp3
  have hyeq : d'.toList.map (fun p => p.1.2) = ys := by
    refine sort_unique hO hpw ?_ hys ?_ hsrt
    · have := hpe.map (fun p : Hk A okr w0 => p.1.2)
      rwa [hdm] at this
    · rw [List.pairwise_map]
      exact pairwise_of_sortedIn (d := d') (by rw [hd']; exact hsorted)
  have hyl : ys.length = xs.length := hys.length_eq
  refine ⟨_, rfl, (), rfl, hput (own A E (.slice (some ⟨gb, 0, none⟩) xs.length c) ys) [gb] _ ?_ (by simp) ?_ fun ok' hm => ?_⟩
  · rw [hb]
    refine ⟨rfl, rfl, rfl, ?_, fun k hk' hkn => ?_⟩
    · simp [Go.Proofs.sortWorldK, grow, putRowK, putRow, mapBlock, ahead]
    · exact hkeep q os d' k (fun e => hkn (by simp [e])) hk'
  · intro b hb'
    simp only [List.mem_singleton] at hb'
    subst hb'
    refine ⟨.inl (by rw [hb]; simp), ?_⟩
    have := lt_of_some hgh
    simp [Go.Proofs.sortWorldK, grow, putRowK, putRow, mapBlock, ahead]
    omega
  · have hnew : (Go.Proofs.sortWorldK enc A.sz w0 gb 0 q d' os).heap[gb]? = some (.cells (putCells id 0 (flatK enc A.sz d') cur) E (0, 0)) := by
      have := lt_of_some hgh
      simp only [Go.Proofs.sortWorldK, grow, putRowK, putRow, mapBlock, ahead]
      rw [Array.getElem?_append_left (by simpa using this), Array.getElem?_modify, if_pos rfl, show (Go.Sort.ahead w0 q).heap[gb]? = w0.heap[gb]? from rfl, hgh]
      rfl
    have hfs : (flatK enc A.sz d').size = xs.length * A.sz := by rw [size_flatK, hd']
    have htake : (putCells id 0 (flatK enc A.sz d') cur).toList.take (xs.length * A.sz) = (flatK enc A.sz d').toList := by
      apply List.ext_getElem?
      intro j
      rw [List.getElem?_take]
      by_cases hj : j < xs.length * A.sz
      · rw [if_pos hj, Array.getElem?_toList, Array.getElem?_toList]
        have hjc : j < cur.size := by omega
        simp only [putCells, Array.getElem?_mapIdx, Array.getElem?_eq_getElem hjc, Option.map_some]
        rw [if_pos ⟨Nat.zero_le _, by omega⟩, Nat.sub_zero, getElem!_pos _ _ (by rw [hfs]; exact hj), Array.getElem?_eq_getElem (by rw [hfs]; exact hj)]
        rfl
      · rw [if_neg hj, List.getElem?_eq_none (by rw [Array.length_toList, hfs]; omega)]
    have hC2 : ∀ (w2 : World), (∀ b, okr b → b < w0.heap.size → w2.heap[b]? = w0.heap[b]? ∧ ok' b) → Cells A ok' w2 ys (flatK enc A.sz d').toList := by
      intro w2 hm2
      refine ⟨by rw [Array.length_toList, hfs, hyl], fun j y hj => ?_⟩
      have hjl : j < ys.length := (List.getElem?_eq_some_iff.1 hj).1
      have hjd : j < d'.size := by omega
      have hy : (d'[j]).1.2 = y := by
        rw [← hyeq] at hj
        simpa [hjd] using hj
      have hR := A.move (d'[j]).2 hm2
      rw [hy] at hR
      have : (((flatK enc A.sz d').toList.drop (j * A.sz)).take A.sz) = (d'[j]).1.1 := by
        apply List.ext_getElem?
        intro i
        rw [List.getElem?_take]
        by_cases hi : i < A.sz
        · have hlt : j * A.sz + i < d'.size * A.sz := by
            have := Nat.mul_le_mul_right A.sz (show j + 1 ≤ d'.size from hjd)
            rw [Nat.add_mul, Nat.one_mul] at this
            omega
          have hdiv : (j * A.sz + i) / A.sz = j := by rw [Nat.mul_comm, Nat.mul_add_div h0, Nat.div_eq_of_lt hi, Nat.add_zero]
          have hmod : (j * A.sz + i) % A.sz = i := by rw [Nat.mul_comm, Nat.mul_add_mod, Nat.mod_eq_of_lt hi]
          have hget := get_flatK enc A.sz d' (j * A.sz + i) hlt
          rw [hdiv, hmod, getElem!_pos d' j hjd] at hget
          rw [if_pos hi, List.getElem?_drop, Array.getElem?_toList, Array.getElem?_eq_getElem (by rw [size_flatK]; exact hlt)]
          rw [getElem!_pos _ _ (by rw [size_flatK]; exact hlt), getElem!_pos _ _ (by rw [hk]; exact hi)] at hget
          rw [hget, List.getElem?_eq_getElem (by have h9 := hk d'[j]; show i < (enc d'[j]).length; rw [h9]; exact hi)]
        · rw [if_neg hi, List.getElem?_eq_none (by have := hk d'[j]; show (enc d'[j]).length ≤ i; omega)]
      rw [this]
      exact hR
    refine .inr ⟨by show 0 < c; omega, _, by simp [Value.ownBlock], ⟨(hC2 _ hm).1, .inr ⟨gb, c, _, by rw [hyl], Nat.zero_le _, hnew, by rw [hyl]; exact hc', hmx, by simp [putCells, hsz], ?_⟩⟩, hC2 _ hm⟩
    rw [hyl, htake]
end
end Go.Proofs.YtpfgdjfiimknlaaL
set_option linter.unusedVariables false
set_option linter.unusedSimpArgs false
namespace Go.Proofs.YtpfgdjfiimknlaaL
open Go

theorem w64 {x : Int} (h1 : -9223372036854775808 ≤ x) (h2 : x ≤ 9223372036854775807) : IntKind.i64.wrap x = x := by
  simp only [IntKind.wrap, IntKind.bits, IntKind.signed]; simp; split <;> omega
theorem w64n {k : Nat} (h : k < 9223372036854775807) : IntKind.i64.wrap ((k : Int) + 1) = ((k + 1 : Nat) : Int) := by
  rw [w64 (by omega) (by omega)]; omega
theorem idx_nat {α : Type} {xs : List α} {k : Nat} (h : k < xs.length) : idx xs (k : Int) = some xs[k] := by
  unfold idx
  rw [if_pos (by omega)]
  simp [h]
theorem app_of {α : Type} {b : Nat} {xs ys : List α} (h : (xs.length + ys.length) * b ≤ 140737488355328) : app b xs ys = some (xs ++ ys) := if_pos h
theorem cut_of {α : Type} {xs : List α} {l h : Int} (h1 : 0 ≤ l) (h2 : l ≤ h) (h3 : h ≤ xs.length) : cut xs l h = some ((xs.take h.toNat).drop l.toNat) := if_pos ⟨h1, h2, h3⟩
theorem letV_of {α β : Type} (e : α) (f : α → Option β) : letV e f = f e := rfl
theorem loopO_up {σ β : Type} {step : σ → Option (σ ⊕ β)} (f : Nat → σ) (n : Nat) {b : β} (hs : ∀ k, k < n → step (f k) = some (.inl (f (k + 1)))) (he : step (f n) = some (.inr b)) : loopO step (f 0) = some b := by
  have : ∀ m k, k + m = n → loopO step (f k) = some b := by
    intro m
    induction m with
    | zero => intro k hk; have : k = n := by omega
              subst this; exact loopO_done he
    | succ m ih => intro k hk; rw [loopO_next (hs k (by omega))]; exact ih (k + 1) (by omega)
  exact this n 0 (by omega)
theorem loopO_inv {σ β : Type} {step : σ → Option (σ ⊕ β)} (I : Nat → σ → Prop) (n : Nat) {s0 : σ} {Q : β → Prop} (h0 : I 0 s0)
    (hs : ∀ k s, k < n → I k s → ∃ s', step s = some (.inl s') ∧ I (k + 1) s') (he : ∀ s, I n s → ∃ b, step s = some (.inr b) ∧ Q b) : ∃ b, loopO step s0 = some b ∧ Q b := by
  have : ∀ m k s, k + m = n → I k s → ∃ b, loopO step s = some b ∧ Q b := by
    intro m
    induction m with
    | zero =>
      intro k s hk hI
      have : k = n := by omega
      subst this
      obtain ⟨b, h1, h2⟩ := he s hI
      exact ⟨b, loopO_done h1, h2⟩
    | succ m ih =>
      intro k s hk hI
      obtain ⟨s', h1, h2⟩ := hs k s (by omega) hI
      rw [loopO_next h1]
      exact ih (k + 1) s' (by omega) h2
  exact this n 0 s0 (by omega) h0
theorem loopO_ex {σ β : Type} {step : σ → Option (σ ⊕ β)} (I : Nat → σ → Prop) (n : Nat) {s0 : σ} {Q : β → Prop} (h0 : I 0 s0)
    (hs : ∀ k s, k < n → I k s → (∃ s', step s = some (.inl s') ∧ I (k + 1) s') ∨ ∃ b, step s = some (.inr b) ∧ Q b) (he : ∀ s, I n s → ∃ b, step s = some (.inr b) ∧ Q b) : ∃ b, loopO step s0 = some b ∧ Q b := by
  have : ∀ m k s, k + m = n → I k s → ∃ b, loopO step s = some b ∧ Q b := by
    intro m
    induction m with
    | zero =>
      intro k s hk hI
      have : k = n := by omega
      subst this
      obtain ⟨b, h1, h2⟩ := he s hI
      exact ⟨b, loopO_done h1, h2⟩
    | succ m ih =>
      intro k s hk hI
      rcases hs k s (by omega) hI with ⟨s', h1, h2⟩ | ⟨b, h1, h2⟩
      · rw [loopO_next h1]
        exact ih (k + 1) s' (by omega) h2
      · exact ⟨b, loopO_done h1, h2⟩
  exact this n 0 s0 (by omega) h0
theorem take_snoc {α : Type} {xs : List α} {k : Nat} (h : k < xs.length) : xs.take (k + 1) = xs.take k ++ [xs[k]] := by
  rw [List.take_succ_eq_append_getElem h]
theorem mset_keys {κ β : Type} [BEq κ] [LawfulBEq κ] (k : κ) (y : β) : ∀ l : List (κ × β), (l.map (·.1)).Nodup → ((mset l k y).map (·.1)).Nodup ∧ ∀ x, x ∈ (mset l k y).map (·.1) → x = k ∨ x ∈ l.map (·.1)
  | [], _ => by simp [mset]
  | e :: l, h => by
    simp only [List.map_cons, List.nodup_cons] at h
    unfold mset
    by_cases hk : k == e.1
    · rw [if_pos hk]
      simp only [List.map_cons, List.nodup_cons]
      exact ⟨h, fun x hx => .inr hx⟩
    · rw [if_neg hk]
      obtain ⟨h1, h2⟩ := mset_keys k y l h.2
      simp only [List.map_cons, List.nodup_cons]
      refine ⟨⟨fun hm => ?_, h1⟩, fun x hx => ?_⟩
      · rcases h2 _ hm with h3 | h3
        · exact hk (by simp [h3])
        · exact h.1 h3
      · rcases List.mem_cons.1 hx with hx | hx
        · exact .inr (List.mem_cons.2 (.inl hx))
        · rcases h2 x hx with h3 | h3
          · exact .inl h3
          · exact .inr (List.mem_cons.2 (.inr h3))
theorem mset_length {κ β : Type} [BEq κ] (k : κ) (y : β) : ∀ l : List (κ × β), (mset l k y).length ≤ l.length + 1
  | [] => by simp [mset]
  | e :: l => by
    unfold mset
    split
    · simp
    · have := mset_length k y l
      simp only [List.length_cons]
      omega
theorem mset_lookup {κ β : Type} [BEq κ] [LawfulBEq κ] (k : κ) (y : β) (x : κ) : ∀ l : List (κ × β), (mset l k y).lookup x = if x == k then some y else l.lookup x
  | [] => by
    simp only [mset, List.lookup]
    cases h : x == k <;> simp
  | e :: l => by
    unfold mset
    by_cases hk : k == e.1
    · rw [if_pos hk]
      have he : k = e.1 := by simpa using hk
      simp only [List.lookup, ← he]
      cases h : x == k <;> simp
    · rw [if_neg hk]
      have ih := mset_lookup k y x l
      simp only [List.lookup]
      cases h : x == e.1 with
      | true =>
        have : (x == k) = false := by
          have hx : x = e.1 := by simpa using h
          rw [hx]
          cases h2 : e.1 == k with
          | false => rfl
          | true => have : e.1 = k := by simpa using h2
                    exact absurd (by simp [this]) hk
        simp [this]
      | false => simpa using ih
end Go.Proofs.YtpfgdjfiimknlaaL
set_option linter.unusedVariables false
set_option linter.unusedSimpArgs false
namespace Go.Proofs.YtpfgdjfiimknlaaL
open Go

def runL {α σ β : Type} (g : Nat → α → σ → Option (σ ⊕ β)) (fin : σ → Option β) : Nat → List α → σ → Option β
  | _, [], s => fin s
  | i, x :: xs, s => match g i x s with
    | none => none
    | some (.inl s') => runL g fin (i + 1) xs s'
    | some (.inr b) => some b
theorem loopO_runL {α σ τ β : Type} {step : τ → Option (τ ⊕ β)} (pack : Nat → σ → τ) (g : Nat → α → σ → Option (σ ⊕ β)) (fin : σ → Option β) (xs : List α)
    (hs : ∀ k (hk : k < xs.length) s, step (pack k s) = match g k xs[k] s with | none => none | some (.inl s') => some (.inl (pack (k + 1) s')) | some (.inr b) => some (.inr b))
    (he : ∀ s, step (pack xs.length s) = (fin s).map .inr) (s : σ) : loopO step (pack 0 s) = runL g fin 0 xs s := by
  have : ∀ m k s, k + m = xs.length → loopO step (pack k s) = runL g fin k (xs.drop k) s := by
    intro m
    induction m with
    | zero =>
      intro k s hk
      have hk : k = xs.length := by omega
      subst hk
      rw [List.drop_length, runL, loopO_unfold, he]
      cases fin s <;> rfl
    | succ m ih =>
      intro k s hk
      have hk' : k < xs.length := by omega
      rw [List.drop_eq_getElem_cons hk', runL, loopO_unfold, hs k hk']
      cases g k xs[k] s with
      | none => rfl
      | some o =>
        cases o with
        | inl s' => exact ih (k + 1) s' (by omega)
        | inr b => rfl
  have h := this xs.length 0 s (by omega)
  rwa [List.drop_zero] at h
theorem lt_of_len {k n : Nat} (h : k < n) : decide ((k : Int) < (n : Int)) = true := by simpa using h
theorem not_lt_len {n : Nat} : decide ((n : Int) < (n : Int)) = false := by simp
theorem wcast {k n : Nat} (hk : k < n) (h : n ≤ 4611686018427387904) : IntKind.i64.wrap ((k : Int) + 1) = ((k + 1 : Nat) : Int) := w64n (by omega)
end Go.Proofs.YtpfgdjfiimknlaaL
set_option linter.unusedVariables false
set_option linter.unusedSimpArgs false
namespace Go.Proofs.Ytpfgdjfiimknlaa
open Go Go.Proofs.YtpfgdjfiimknlaaL
section
variable {α : Type} (key : α → List UInt8)
abbrev SA (l : List α) : Prop := l.Pairwise fun a b => Op.bytesLess (key a) (key b) = true
def upd (k : List UInt8) (g : Option α → α) : List α → List α
  | [] => [g none]
  | a :: l => if Op.bytesLess (key a) k then a :: upd k g l else if key a == k then g (some a) :: l else g none :: a :: l
def get (l : List α) (k : List UInt8) : Option α := l.find? fun a => key a == k
variable {key}
theorem get_nil (k : List UInt8) : get key [] k = none := rfl
theorem get_cons (a : α) (l : List α) (k : List UInt8) : get key (a :: l) k = if key a = k then some a else get key l k := by
  unfold get
  rw [List.find?_cons]
  by_cases h : key a = k
  · rw [if_pos h, show (key a == k) = true by simp [h]]
  · rw [if_neg h, show (key a == k) = false by simp [h]]
theorem get_key {l : List α} {k : List UInt8} {a : α} (h : get key l k = some a) : key a = k := by
  unfold get at h
  simpa using List.find?_some h
theorem get_mem {l : List α} {k : List UInt8} {a : α} (h : get key l k = some a) : a ∈ l := List.mem_of_find?_eq_some h
theorem get_none_of {l : List α} {k : List UInt8} (h : ∀ a ∈ l, key a ≠ k) : get key l k = none := by
  unfold get
  rw [List.find?_eq_none]
  intro a ha
  simpa using h a ha
theorem get_some_iff {l : List α} {k : List UInt8} : (get key l k).isSome = true ↔ ∃ a ∈ l, key a = k := by
  unfold get
  rw [List.find?_isSome]
  simp
theorem SA_lt {a : α} {l : List α} (h : SA key (a :: l)) : ∀ b ∈ l, Op.bytesLess (key a) (key b) = true := (List.pairwise_cons.1 h).1
theorem SA_ne {a : α} {l : List α} (h : SA key (a :: l)) : ∀ b ∈ l, key b ≠ key a := fun b hb e => by
  have := SA_lt h b hb
  rw [e, bl_irrefl] at this
  cases this
theorem get_mem_self {l : List α} (h : SA key l) {a : α} (ha : a ∈ l) : get key l (key a) = some a := by
  induction l with
  | nil => simp at ha
  | cons b l ih =>
    rw [get_cons]
    rcases List.mem_cons.1 ha with rfl | ha
    · rw [if_pos rfl]
    · rw [if_neg (fun e => SA_ne h a ha e.symm), ih (List.pairwise_cons.1 h).2 ha]
theorem get_below {a : α} {l : List α} (h : SA key (a :: l)) {k : List UInt8} (hk : Op.bytesLess k (key a) = true) : get key (a :: l) k = none := get_none_of fun b hb => by
  rcases List.mem_cons.1 hb with rfl | hb
  · intro e; rw [e, bl_irrefl] at hk; cases hk
  · intro e
    have := bl_trans hk (SA_lt h b hb)
    rw [e, bl_irrefl] at this
    cases this
theorem get_upd {k : List UInt8} {g : Option α → α} (hg : ∀ o, (∀ a, o = some a → key a = k) → key (g o) = k) (k' : List UInt8) : ∀ {l : List α}, SA key l → get key (upd key k g l) k' = if k' = k then some (g (get key l k)) else get key l k'
  | [], _ => by
    unfold upd
    have e : key (g none) = k := hg none (by simp)
    rw [get_cons, e, get_nil]
    by_cases h : k' = k
    · rw [if_pos h.symm, if_pos h, get_nil]
    · rw [if_neg (fun e => h e.symm), if_neg h]
  | a :: l, hl => by
    have hl' := (List.pairwise_cons.1 hl).2
    unfold upd
    cases h1 : Op.bytesLess (key a) k with
    | true =>
      rw [if_pos rfl, get_cons, get_upd hg k' hl']
      have hne : key a ≠ k := fun e => by rw [e, bl_irrefl] at h1; cases h1
      by_cases h : k' = k
      · rw [if_neg (by rw [h]; exact hne), if_pos h, if_pos h, get_cons, if_neg hne]
      · rw [if_neg h, if_neg h, get_cons]
    | false =>
      rw [if_neg (by simp)]
      by_cases h2 : key a = k
      · rw [if_pos (by simp [h2]), get_cons, hg (some a) (by simp [h2]), get_cons, if_pos h2]
        by_cases h : k' = k
        · rw [if_pos h.symm, if_pos h]
        · rw [if_neg (fun e => h e.symm), if_neg h, get_cons, if_neg (by rw [h2]; exact fun e => h e.symm)]
      · rw [if_neg (by simpa using h2), get_cons, hg none (by simp)]
        have h3 : Op.bytesLess k (key a) = true := by
          cases h4 : Op.bytesLess k (key a) with
          | true => rfl
          | false => exact absurd (bl_tri h1 h4) h2
        by_cases h : k' = k
        · rw [if_pos h.symm, if_pos h, get_below hl h3]
        · rw [if_neg (fun e => h e.symm), if_neg h]
theorem mem_upd {k : List UInt8} {g : Option α → α} : ∀ {l : List α}, SA key l → ∀ x ∈ upd key k g l, x ∈ l ∨ x = g (get key l k)
  | [], _, x, hx => by
    unfold upd at hx
    simp at hx
    exact .inr hx
  | a :: l, hl, x, hx => by
    have hl' := (List.pairwise_cons.1 hl).2
    unfold upd at hx
    cases h1 : Op.bytesLess (key a) k with
    | true =>
      rw [h1, if_pos rfl] at hx
      have hne : key a ≠ k := fun e => by rw [e, bl_irrefl] at h1; cases h1
      rcases List.mem_cons.1 hx with rfl | hx
      · exact .inl (by simp)
      · rw [get_cons, if_neg hne]
        rcases mem_upd hl' x hx with h | h
        · exact .inl (by simp [h])
        · exact .inr h
    | false =>
      rw [h1, if_neg (by simp)] at hx
      by_cases h2 : key a = k
      · rw [if_pos (by simp [h2])] at hx
        rw [get_cons, if_pos h2]
        rcases List.mem_cons.1 hx with h | h
        · exact .inr h
        · exact .inl (by simp [h])
      · rw [if_neg (by simpa using h2)] at hx
        have h3 : Op.bytesLess k (key a) = true := by
          cases h4 : Op.bytesLess k (key a) with
          | true => rfl
          | false => exact absurd (bl_tri h1 h4) h2
        rw [get_below hl h3]
        rcases List.mem_cons.1 hx with h | h
        · exact .inr h
        · exact .inl h
theorem SA_upd {k : List UInt8} {g : Option α → α} (hg : ∀ o, (∀ a, o = some a → key a = k) → key (g o) = k) : ∀ {l : List α}, SA key l → SA key (upd key k g l)
  | [], _ => by unfold upd; exact List.pairwise_singleton _ _
  | a :: l, hl => by
    have hl' := (List.pairwise_cons.1 hl).2
    unfold upd
    cases h1 : Op.bytesLess (key a) k with
    | true =>
      rw [if_pos rfl]
      refine List.pairwise_cons.2 ⟨fun x hx => ?_, SA_upd hg hl'⟩
      rcases mem_upd hl' x hx with h | h
      · exact SA_lt hl x h
      · rw [h, hg _ fun b hb => get_key hb]; exact h1
    | false =>
      rw [if_neg (by simp)]
      by_cases h2 : key a = k
      · rw [if_pos (by simp [h2])]
        refine List.pairwise_cons.2 ⟨fun x hx => ?_, hl'⟩
        rw [hg (some a) (by simp [h2]), ← h2]
        exact SA_lt hl x hx
      · rw [if_neg (by simpa using h2)]
        have h3 : Op.bytesLess k (key a) = true := by
          cases h4 : Op.bytesLess k (key a) with
          | true => rfl
          | false => exact absurd (bl_tri h1 h4) h2
        refine List.pairwise_cons.2 ⟨fun x hx => ?_, hl⟩
        rw [hg none (by simp)]
        rcases List.mem_cons.1 hx with rfl | hx
        · exact h3
        · exact bl_trans h3 (SA_lt hl x hx)
theorem SA_ext : ∀ {l l' : List α}, SA key l → SA key l' → (∀ k, get key l k = get key l' k) → l = l'
  | [], [], _, _, _ => rfl
  | [], b :: l', _, _, h => by
    have := h (key b)
    rw [get_nil, get_cons, if_pos rfl] at this
    cases this
  | a :: l, [], _, _, h => by
    have := h (key a)
    rw [get_nil, get_cons, if_pos rfl] at this
    cases this
  | a :: l, b :: l', hl, hl', h => by
    have hab : key a = key b := by
      refine bl_tri ?_ ?_
      · cases hk : Op.bytesLess (key a) (key b) with
        | false => rfl
        | true =>
          have := h (key a)
          rw [get_below hl' hk, get_cons, if_pos rfl] at this
          cases this
      · cases hk : Op.bytesLess (key b) (key a) with
        | false => rfl
        | true =>
          have := h (key b)
          rw [get_below hl hk, get_cons, if_pos rfl] at this
          cases this
    have e1 : a = b := by
      have := h (key a)
      rw [get_cons, if_pos rfl, get_cons, if_pos hab.symm] at this
      exact Option.some.inj this
    subst e1
    have : l = l' := by
      refine SA_ext (List.pairwise_cons.1 hl).2 (List.pairwise_cons.1 hl').2 fun k => ?_
      by_cases hk : key a = k
      · rw [← hk, get_none_of (SA_ne hl), get_none_of (SA_ne hl')]
      · have := h k
        rw [get_cons, if_neg hk, get_cons, if_neg hk] at this
        exact this
    rw [this]
theorem upd_congr {k : List UInt8} {g g' : Option α → α} (hg : ∀ o, (∀ a, o = some a → key a = k) → key (g o) = k) {l : List α} (hl : SA key l) (h : g (get key l k) = g' (get key l k)) (hg' : ∀ o, (∀ a, o = some a → key a = k) → key (g' o) = k) : upd key k g l = upd key k g' l := by
  refine SA_ext (SA_upd hg hl) (SA_upd hg' hl) fun q => ?_
  rw [get_upd hg q hl, get_upd hg' q hl, h]
end
section
variable {β : Type}
theorem skeys_of {m : List (List UInt8 × β)} (h1 : ∀ x ∈ m, x.1.length ≤ 1000000) (h2 : m.length ≤ 1000000) : skeys m = some ((m.map (·.1)).mergeSort fun a b => decide (a ≤ b)) := by
  unfold skeys
  rw [if_pos ⟨fun x hx => Nat.le_trans (h1 x hx) (by decide), by omega⟩]
theorem sorted_asc {l : List (List UInt8)} (h : l.Nodup) : Asc (l.mergeSort fun a b => decide (a ≤ b)) := by
  have tr : ∀ a b c : List UInt8, (decide (a ≤ b)) = true → (decide (b ≤ c)) = true → (decide (a ≤ c)) = true := fun a b c h1 h2 => by simp only [decide_eq_true_eq] at *; exact List.le_trans h1 h2
  have to : ∀ a b : List UInt8, ((decide (a ≤ b)) || (decide (b ≤ a))) = true := fun a b => by simp only [Bool.or_eq_true, decide_eq_true_eq]; exact List.le_total a b
  have h1 := List.pairwise_mergeSort tr to l
  have h2 : (l.mergeSort fun a b => decide (a ≤ b)).Nodup := (List.mergeSort_perm l _).nodup_iff.2 h
  refine (h1.and h2).imp fun {a b} hab => ?_
  obtain ⟨h3, h4⟩ := hab
  rw [Go.Proofs.bytesLess_eq, decide_eq_true_eq]
  rw [decide_eq_true_eq] at h3
  refine Decidable.byContradiction fun h => ?_
  exact h4 (List.le_antisymm h3 h)
end
end Go.Proofs.Ytpfgdjfiimknlaa
set_option linter.unusedVariables false
set_option linter.unusedSimpArgs false
namespace Go.Proofs.Ytpfgdjfiimknlaa
open Go Go.Proofs.YtpfgdjfiimknlaaL
abbrev FN_ : fold_Field → List UInt8 := fold_Field.Name
abbrev ON_ : fold_Object → List UInt8 := fold_Object.Name
abbrev srtN (l : List (List UInt8)) : List (List UInt8) := l.mergeSort fun a b => decide (a ≤ b)
def canonF (fs : List fold_Field) : List fold_Field := (srtN (fs.map (·.Name))).map fun n => (get FN_ fs n).getD fold_zero
def canonB (x : fold_B) : List fold_Object := (srtN (x.map (·.1))).map fun n => ⟨n, canonF ((x.lookup n).getD [])⟩
theorem loop_app {γ δ : Type} {b : Nat} {ns : List γ} {step : (Int × List δ) → Option ((Int × List δ) ⊕ List δ)} (F : γ → δ)
    (hs : ∀ (k : Nat) (hk : k < ns.length) (out : List δ), step ((k : Int), out) = (app b out [F ns[k]]).bind fun out' => letV (IntKind.i64.wrap ((k : Int) + 1)) fun j => some (.inl (j, out')))
    (he : ∀ out : List δ, step ((ns.length : Int), out) = some (.inr out)) (hb : ns.length * b ≤ 140737488355328) (hn : ns.length ≤ 4611686018427387904) : loopO step (0, []) = some (ns.map F) := by
  have := loopO_up (step := step) (fun k => ((k : Int), (ns.take k).map F)) ns.length (b := ns.map F) (fun k hk => ?_) ?_
  · simpa using this
  · show step ((k : Int), (ns.take k).map F) = _
    rw [hs k hk, app_of (by
      have e : ((ns.take k).map F).length + [F ns[k]].length ≤ ns.length := by simp; omega
      exact Nat.le_trans (Nat.mul_le_mul_right b e) hb)]
    show letV _ _ = _
    rw [letV, wcast hk hn, take_snoc hk, List.map_append]
    rfl
  · show step ((ns.length : Int), (ns.take ns.length).map F) = _
    rw [he, List.take_length]
theorem get_map {α : Type} {key : α → List UInt8} {F : List UInt8 → α} : ∀ {ns : List (List UInt8)}, (∀ n ∈ ns, key (F n) = n) → ∀ k, get key (ns.map F) k = if k ∈ ns then some (F k) else none
  | [], _, k => by simp [get]
  | n :: ns, h, k => by
    rw [List.map_cons, get_cons, h n (by simp), get_map (fun m hm => h m (by simp [hm]))]
    by_cases hk : n = k
    · rw [if_pos hk, if_pos (by simp [hk]), hk]
    · rw [if_neg hk]
      by_cases hm : k ∈ ns
      · rw [if_pos hm, if_pos (by simp [hm])]
      · rw [if_neg hm, if_neg (by simp only [List.mem_cons, not_or]; exact ⟨fun e => hk e.symm, hm⟩)]
theorem SA_map {α : Type} {key : α → List UInt8} {F : List UInt8 → α} {ns : List (List UInt8)} (ha : Asc ns) (h : ∀ n ∈ ns, key (F n) = n) : SA key (ns.map F) := by
  refine List.pairwise_map.2 (ha.imp_of_mem fun {a b} ha hb hab => ?_)
  rw [h a ha, h b hb]
  exact hab
theorem mem_srt {l : List (List UInt8)} {k : List UInt8} : k ∈ srtN l ↔ k ∈ l := (List.mergeSort_perm l _).mem_iff
theorem get_names {fs : List fold_Field} {k : List UInt8} : k ∈ fs.map (·.Name) ↔ (get FN_ fs k).isSome = true := by
  rw [get_some_iff, List.mem_map]
theorem canonF_name (fs : List fold_Field) : ∀ n ∈ srtN (fs.map (·.Name)), FN_ ((get FN_ fs n).getD fold_zero) = n := by
  intro n hn
  rw [mem_srt, get_names] at hn
  cases h : get FN_ fs n with
  | none => rw [h] at hn; cases hn
  | some y => exact get_key h
theorem get_canonF (fs : List fold_Field) (k : List UInt8) : get FN_ (canonF fs) k = get FN_ fs k := by
  unfold canonF
  rw [get_map (canonF_name fs)]
  by_cases h : k ∈ srtN (fs.map (·.Name))
  · rw [if_pos h]
    rw [mem_srt, get_names] at h
    cases hg : get FN_ fs k with
    | none => rw [hg] at h; cases h
    | some y => rfl
  · rw [if_neg h]
    rw [mem_srt, get_names] at h
    cases hg : get FN_ fs k with
    | none => rfl
    | some y => rw [hg] at h; simp at h
theorem SA_canonF {fs : List fold_Field} (h : (fs.map (·.Name)).Nodup) : SA FN_ (canonF fs) := SA_map (sorted_asc h) (canonF_name fs)
theorem get_canonB (x : fold_B) (k : List UInt8) : get ON_ (canonB x) k = (x.lookup k).map fun fs => ⟨k, canonF fs⟩ := by
  unfold canonB
  rw [get_map (fun n _ => rfl)]
  have hm : k ∈ x.map (·.1) ↔ (x.lookup k).isSome = true := by
    induction x with
    | nil => simp
    | cons a x ih =>
      rw [List.map_cons, List.mem_cons, List.lookup_cons]
      cases hk : k == a.1 with
      | true => have : k = a.1 := by simpa using hk
                simp [this]
      | false =>
        have : k ≠ a.1 := by simpa using hk
        simp only [this, false_or]
        exact ih
  by_cases h : k ∈ srtN (x.map (·.1))
  · rw [if_pos h]
    rw [mem_srt, hm] at h
    cases hg : x.lookup k with
    | none => rw [hg] at h; cases h
    | some y => rfl
  · rw [if_neg h]
    rw [mem_srt, hm] at h
    cases hg : x.lookup k with
    | none => rfl
    | some y => rw [hg] at h; simp at h
theorem SA_canonB {x : fold_B} (h : (x.map (·.1)).Nodup) : SA ON_ (canonB x) := SA_map (sorted_asc h) (fun n _ => rfl)
structure GF (n : Nat) (y : fold_Field) : Prop where
  name : y.Name.length ≤ 1000
  asc : Asc y.Elems
  len : y.Elems.length ≤ n
  els : ∀ s ∈ y.Elems, s.length ≤ 1000
  reg : y.Register.S.length ≤ 1000
structure BI (n : Nat) (x : fold_B) : Prop where
  keys : (x.map (·.1)).Nodup
  len : x.length ≤ n
  name : ∀ o ∈ x, o.1.length ≤ 1000
  ne : ∀ o ∈ x, o.2 ≠ []
  names : ∀ o ∈ x, (o.2.map (·.Name)).Nodup
  flen : ∀ o ∈ x, o.2.length ≤ n
  good : ∀ o ∈ x, ∀ y ∈ o.2, GF n y
theorem lookup_mem {β : Type} {x : List (List UInt8 × β)} {k : List UInt8} {b : β} (h : x.lookup k = some b) : (k, b) ∈ x := by
  induction x with
  | nil => cases h
  | cons a x ih =>
    rw [List.lookup_cons] at h
    cases hk : k == a.1 with
    | true =>
      rw [hk] at h
      have e : k = a.1 := by simpa using hk
      have : a = (k, b) := by rw [e]; exact Prod.ext rfl (Option.some.inj h)
      rw [this]; simp
    | false => rw [hk] at h; exact List.mem_cons_of_mem _ (ih h)
theorem lookup_fields (fs : List fold_Field) (k : List UInt8) : (fs.map fun y => (y.Name, y)).lookup k = get FN_ fs k := by
  induction fs with
  | nil => rfl
  | cons a fs ih =>
    rw [List.map_cons, List.lookup_cons, get_cons]
    by_cases h : a.Name = k
    · rw [if_pos h, show (k == a.Name) = true by simp [h]]
    · rw [if_neg h, show (k == a.Name) = false by simpa using fun e => h e.symm]
      exact ih
theorem lookup_frz (x : fold_B) (k : List UInt8) : (fold_frz x).lookup k = (x.lookup k).map fun fs => fs.map fun y => (y.Name, y) := by
  induction x with
  | nil => rfl
  | cons a x ih =>
    unfold fold_frz at ih ⊢
    rw [List.map_cons, List.lookup_cons, List.lookup_cons]
    cases h : k == a.1 with
    | true => rfl
    | false => exact ih
theorem fold_store_eq {n : Nat} {x : fold_B} (h : BI n x) (hn : n ≤ 1000000) : fold_store (fold_frz x) = some ⟨canonB x⟩ := by
  unfold fold_store
  have e1 : skeys (fold_frz x) = some (srtN (x.map (·.1))) := by
    have e0 : (fold_frz x).map (·.1) = x.map (·.1) := by
      unfold fold_frz
      rw [List.map_map]
      rfl
    rw [skeys_of (m := fold_frz x), e0]
    · intro y hy
      unfold fold_frz at hy
      obtain ⟨o, ho, rfl⟩ := List.mem_map.1 hy
      have := h.name o ho
      show o.1.length ≤ _
      omega
    · have := h.len
      unfold fold_frz
      rw [List.length_map]
      omega
  rw [e1, Option.bind_some]
  have hlen : (srtN (x.map (·.1))).length ≤ n := by rw [List.length_mergeSort, List.length_map]; exact h.len
  rw [loop_app (b := 40) (ns := srtN (x.map (·.1))) (fun n => (⟨n, canonF ((x.lookup n).getD [])⟩ : fold_Object)) ?_ ?_ (by omega) (by omega)]
  · rfl
  · intro k hk out
    unfold fold_store.l2
    simp only [lt_of_len hk, if_true, idx_nat hk, Option.bind_some]
    have hmem : (srtN (x.map (·.1)))[k] ∈ x.map (·.1) := mem_srt.1 (List.getElem_mem hk)
    obtain ⟨nm, hnm⟩ : ∃ nm, nm = (srtN (x.map (·.1)))[k] := ⟨_, rfl⟩
    rw [← hnm] at hmem ⊢
    obtain ⟨o, ho, he⟩ := List.mem_map.1 hmem
    have hfs : ∃ fs, x.lookup nm = some fs := by
      cases hl : x.lookup nm with
      | some fs => exact ⟨fs, rfl⟩
      | none =>
        exfalso
        clear hnm hmem hk out h hlen e1 hn
        induction x with
        | nil => simp at ho
        | cons a x ih =>
          rw [List.lookup_cons] at hl
          cases hk : nm == a.1 with
          | true => rw [hk] at hl; cases hl
          | false =>
            rw [hk] at hl
            rcases List.mem_cons.1 ho with rfl | ho
            · rw [he] at hk; simp at hk
            · exact ih ho hl
    obtain ⟨fs, hfs⟩ := hfs
    have hm := lookup_mem hfs
    have hfl : fs.length ≤ n := h.flen _ hm
    rw [lookup_frz, hfs]
    show ((skeys (fs.map fun y => (y.Name, y))).bind _) = _
    have e2 : skeys (fs.map fun y => (y.Name, y)) = some (srtN (fs.map (·.Name))) := by
      rw [skeys_of]
      · rw [List.map_map]; rfl
      · intro y hy
        obtain ⟨z, hz, rfl⟩ := List.mem_map.1 hy
        have := (h.good _ hm z hz).name
        show z.Name.length ≤ _
        omega
      · rw [List.length_map]; omega
    rw [e2, Option.bind_some]
    have hl2 : (srtN (fs.map (·.Name))).length ≤ n := by rw [List.length_mergeSort, List.length_map]; exact hfl
    rw [loop_app (b := 128) (ns := srtN (fs.map (·.Name))) (fun n => (get FN_ fs n).getD fold_zero) ?_ ?_ (by omega) (by omega)]
    · rfl
    · intro k hk out
      unfold fold_store.l1
      simp only [lt_of_len hk, if_true, idx_nat hk, Option.bind_some]
      show ((app 128 out [(((fs.map fun y => (y.Name, y)).lookup _).getD fold_zero)]).bind _) = _
      rw [lookup_fields]
    · intro out
      unfold fold_store.l1
      simp only [not_lt_len, Bool.false_eq_true, if_false]
  · intro out
    unfold fold_store.l2
    simp only [not_lt_len, Bool.false_eq_true, if_false]
end Go.Proofs.Ytpfgdjfiimknlaa
set_option linter.unusedVariables false
set_option linter.unusedSimpArgs false
namespace Go.Proofs.Ytpfgdjfiimknlaa
open Go Go.Proofs.YtpfgdjfiimknlaaL
def newerS (u : api_Update) (r : fold_Register) : Bool := !r.Set || decide (r.Tag < u.Tag ∨ r.Tag = u.Tag ∧ (r.Client < u.Client ∨ r.Client = u.Client ∧ r.Seq < u.Seq))
theorem compare_eq (a b : Int) : cmp_Compare_int a b = some (cmpI a b) := by
  unfold cmp_Compare_int cmp_isNaN_int cmpI
  simp only [Option.bind_some, bne_self_eq_false, Bool.false_eq_true, if_false]
  by_cases h1 : a < b
  · simp [h1]
  · by_cases h2 : b < a <;> simp [h1, h2]
theorem or_eq (a b c : Int) : cmp_Or_int [a, b, c] = some (if a ≠ 0 then a else if b ≠ 0 then b else c) := by
  unfold cmp_Or_int
  have e : loopO (cmp_Or_int.l1 [a, b, c]) 0 = some (if a ≠ 0 then .inr a else if b ≠ 0 then .inr b else if c ≠ 0 then .inr c else .inl ()) := by
    by_cases ha : a = 0
    · rw [loopO_next (s' := 1) (by unfold cmp_Or_int.l1; simp [idx, ha, letV, w64])]
      by_cases hb : b = 0
      · rw [loopO_next (s' := 2) (by unfold cmp_Or_int.l1; simp [idx, hb, letV, w64])]
        by_cases hc : c = 0
        · rw [loopO_next (s' := 3) (by unfold cmp_Or_int.l1; simp [idx, hc, letV, w64]), loopO_done (b := .inl ()) (by unfold cmp_Or_int.l1; simp)]
          simp [ha, hb, hc]
        · rw [loopO_done (b := .inr c) (by unfold cmp_Or_int.l1; simp [idx, hc])]
          simp [ha, hb, hc]
      · rw [loopO_done (b := .inr b) (by unfold cmp_Or_int.l1; simp [idx, hb])]
        simp [ha, hb]
    · rw [loopO_done (b := .inr a) (by unfold cmp_Or_int.l1; simp [idx, ha])]
      simp [ha]
  rw [e, Option.bind_some]
  by_cases ha : a = 0
  · by_cases hb : b = 0
    · by_cases hc : c = 0
      · simp [ha, hb, hc, cmp_Or_int.j1]
      · simp [ha, hb, hc]
    · simp [ha, hb]
  · simp [ha]
theorem cmp_lex (a b c d e f : Int) : (0 < (if cmpI a b ≠ 0 then cmpI a b else if cmpI c d ≠ 0 then cmpI c d else cmpI e f)) ↔ (b < a ∨ b = a ∧ (d < c ∨ d = c ∧ f < e)) := by
  unfold cmpI
  grind
theorem newer_eq (u : api_Update) (r : fold_Register) : fold_newer u r = some (newerS u r) := by
  unfold fold_newer newerS
  cases r.Set with
  | false => rfl
  | true =>
    simp only [Bool.not_true, Bool.false_eq_true, if_false, compare_eq, Option.bind_some, or_eq, fold_newer.j1, Bool.false_or]
    congr 1
    rw [Bool.eq_iff_iff, decide_eq_true_eq, decide_eq_true_eq]
    exact cmp_lex _ _ _ _ _ _
def updF (u : api_Update) (e : api_Effect) (f : fold_Field) : fold_Field :=
  if e.Kind = 1 then (if newerS u f.Register then { f with Register := ⟨true, u.Tag, u.Client, u.Seq, e.N, e.S⟩ } else f) else
  if e.Kind = 2 then (if !f.HasMax || decide (f.Max < e.N) then { f with HasMax := true, Max := e.N } else f) else
  if e.Kind = 3 then { f with Sum := IntKind.i64.wrap (f.Sum + e.N) } else
  if e.Kind = 4 then { f with Elems := insS f.Elems e.S } else
  if e.Kind = 5 then { f with Flag := true } else f
theorem fold_upd_eq {n : Nat} {u : api_Update} {e : api_Effect} {f : fold_Field} (h : GF n f) (hn : n ≤ 1000000) : fold_upd u e f = some (updF u e f) := by
  unfold fold_upd updF
  by_cases h1 : e.Kind = 1
  · simp only [h1, beq_self_eq_true, if_true, newer_eq, Option.bind_some]
    cases newerS u f.Register <;> rfl
  · rw [if_neg (by simpa using h1), if_neg h1]
    by_cases h2 : e.Kind = 2
    · simp only [h2, beq_self_eq_true, if_true]
      cases f.HasMax with
      | false => rfl
      | true =>
        simp only [Bool.not_true, Bool.false_or, Bool.false_eq_true, if_false]
        cases decide (f.Max < e.N) <;> rfl
    · rw [if_neg (by simpa using h2), if_neg h2]
      by_cases h3 : e.Kind = 3
      · simp only [h3, beq_self_eq_true, if_true]
      · rw [if_neg (by simpa using h3), if_neg h3]
        by_cases h4 : e.Kind = 4
        · simp only [h4, beq_self_eq_true, if_true, insO]
          rw [if_pos ⟨h.asc, by have := h.len; omega⟩]
          rfl
        · rw [if_neg (by simpa using h4), if_neg h4]
          by_cases h5 : e.Kind = 5
          · simp only [h5, beq_self_eq_true, if_true]
          · rw [if_neg (by simpa using h5), if_neg h5]
theorem insS_mem : ∀ {l : List (List UInt8)} {s x : List UInt8}, x ∈ insS l s → x = s ∨ x ∈ l
  | [], s, x, h => by simp [insS] at h; exact .inl h
  | a :: l, s, x, h => by
    unfold insS at h
    split at h
    · rcases List.mem_cons.1 h with rfl | h
      · exact .inr (by simp)
      · rcases insS_mem h with h | h
        · exact .inl h
        · exact .inr (by simp [h])
    · split at h
      · exact .inr h
      · rcases List.mem_cons.1 h with rfl | h
        · exact .inl rfl
        · exact .inr h
theorem insS_asc : ∀ {l : List (List UInt8)} {s : List UInt8}, Asc l → Asc (insS l s)
  | [], s, _ => by unfold insS; exact List.pairwise_singleton _ _
  | a :: l, s, h => by
    have h1 := (List.pairwise_cons.1 h).1
    have h2 := (List.pairwise_cons.1 h).2
    unfold insS
    cases hc : Op.bytesLess a s with
    | true =>
      rw [if_pos rfl]
      refine List.pairwise_cons.2 ⟨fun x hx => ?_, insS_asc h2⟩
      rcases insS_mem hx with rfl | hx
      · exact hc
      · exact h1 x hx
    | false =>
      rw [if_neg (by simp)]
      by_cases he : a = s
      · rw [if_pos (by simp [he])]; exact h
      · rw [if_neg (by simpa using he)]
        have hs : Op.bytesLess s a = true := by
          cases hk : Op.bytesLess s a with
          | true => rfl
          | false => exact absurd (bl_tri hc hk) he
        refine List.pairwise_cons.2 ⟨fun x hx => ?_, h⟩
        rcases List.mem_cons.1 hx with rfl | hx
        · exact hs
        · exact bl_trans hs (h1 x hx)
theorem insS_length : ∀ (l : List (List UInt8)) (s : List UInt8), (insS l s).length ≤ l.length + 1
  | [], s => by simp [insS]
  | a :: l, s => by
    unfold insS
    have := insS_length l s
    split
    · simp only [List.length_cons]; omega
    · split <;> simp
theorem updF_name (u : api_Update) (e : api_Effect) (f : fold_Field) : (updF u e f).Name = f.Name := by
  unfold updF
  repeat' split
  all_goals rfl
structure EF (e : api_Effect) : Prop where
  obj : e.Object.length ≤ 1000
  fld : e.Field.length ≤ 1000
  str : e.S.length ≤ 1000
theorem GF.mono {n m : Nat} {y : fold_Field} (h : GF n y) (hm : n ≤ m) : GF m y := ⟨h.name, h.asc, Nat.le_trans h.len hm, h.els, h.reg⟩
theorem GF_upd {n : Nat} {u : api_Update} {e : api_Effect} {f : fold_Field} (h : GF n f) (he : EF e) : GF (n + 1) (updF u e f) := by
  have hm : GF (n + 1) f := h.mono (by omega)
  unfold updF
  split
  · split
    · exact ⟨hm.name, hm.asc, hm.len, hm.els, he.str⟩
    · exact hm
  · split
    · split
      · exact ⟨hm.name, hm.asc, hm.len, hm.els, hm.reg⟩
      · exact hm
    · split
      · exact ⟨hm.name, hm.asc, hm.len, hm.els, hm.reg⟩
      · split
        · refine ⟨hm.name, insS_asc h.asc, Nat.le_trans (insS_length _ _) (by have := h.len; omega), fun s hs => ?_, hm.reg⟩
          rcases insS_mem hs with rfl | hs
          · exact he.str
          · exact h.els s hs
        · split
          · exact ⟨hm.name, hm.asc, hm.len, hm.els, hm.reg⟩
          · exact hm
theorem GF_named {n : Nat} {f : fold_Field} (h : GF n f) {k : List UInt8} (hk : k.length ≤ 1000) : GF n { f with Name := k } := ⟨hk, h.asc, h.len, h.els, h.reg⟩
theorem GF_zero (n : Nat) : GF n fold_zero := ⟨by decide, List.Pairwise.nil, Nat.zero_le _, fun s hs => by simp [fold_zero] at hs, by decide⟩
def inObj (k f : List UInt8) (h : Option fold_Field → fold_Field) : Option fold_Object → fold_Object := fun o => ⟨k, upd FN_ f h ((o.map (·.Fields)).getD [])⟩
theorem inObj_key (k f : List UInt8) (h : Option fold_Field → fold_Field) : ∀ o, (∀ a, o = some a → ON_ a = k) → ON_ (inObj k f h o) = k := fun _ _ => rfl
def inFld (u : api_Update) (e : api_Effect) : Option fold_Field → fold_Field := fun y => updF u e { y.getD fold_zero with Name := e.Field }
theorem inFld_key (u : api_Update) (e : api_Effect) : ∀ o, (∀ a, o = some a → FN_ a = e.Field) → FN_ (inFld u e o) = e.Field := fun _ _ => updF_name _ _ _
def effT (u : api_Update) (objs : List fold_Object) (e : api_Effect) : List fold_Object := upd ON_ e.Object (inObj e.Object e.Field (inFld u e)) objs
theorem get_fput {y : fold_Field} {k : List UInt8} : ∀ {fs : List fold_Field}, get FN_ (fput fold_Field.Name y fs) k = if k = y.Name then some y else get FN_ fs k
  | [] => by
    unfold fput
    rw [get_cons, get_nil]
    by_cases h : y.Name = k
    · rw [if_pos h, if_pos h.symm]
    · rw [if_neg h, if_neg (fun e => h e.symm)]
  | a :: fs => by
    unfold fput
    by_cases h : y.Name = a.Name
    · rw [if_pos (by simp [h]), get_cons, get_cons]
      by_cases hk : y.Name = k
      · rw [if_pos hk, if_pos hk.symm]
      · rw [if_neg hk, if_neg (fun e => hk e.symm), if_neg (by show ¬ a.Name = k; rw [← h]; exact hk)]
    · rw [if_neg (by simpa using h), get_cons, get_cons, get_fput]
      by_cases hk : a.Name = k
      · rw [if_pos hk, if_neg (by rw [← hk]; exact fun e => h e.symm), if_pos hk]
      · rw [if_neg hk, if_neg hk]
theorem fput_mem {y z : fold_Field} : ∀ {fs : List fold_Field}, z ∈ fput fold_Field.Name y fs → z = y ∨ z ∈ fs
  | [], h => by simp [fput] at h; exact .inl h
  | a :: fs, h => by
    unfold fput at h
    split at h
    · rcases List.mem_cons.1 h with h | h
      · exact .inl h
      · exact .inr (by simp [h])
    · rcases List.mem_cons.1 h with h | h
      · exact .inr (by simp [h])
      · rcases fput_mem h with h | h
        · exact .inl h
        · exact .inr (by simp [h])
theorem fput_names {y : fold_Field} : ∀ {fs : List fold_Field}, (fs.map (·.Name)).Nodup → ((fput fold_Field.Name y fs).map (·.Name)).Nodup
  | [], _ => by simp [fput]
  | a :: fs, h => by
    rw [List.map_cons, List.nodup_cons] at h
    unfold fput
    by_cases hk : y.Name = a.Name
    · rw [if_pos (by simp [hk]), List.map_cons, List.nodup_cons, hk]
      exact h
    · rw [if_neg (by simpa using hk), List.map_cons, List.nodup_cons]
      refine ⟨fun hm => ?_, fput_names h.2⟩
      obtain ⟨z, hz, he⟩ := List.mem_map.1 hm
      rcases fput_mem hz with rfl | hz
      · exact hk he
      · exact h.1 (List.mem_map.2 ⟨z, hz, he⟩)
theorem fput_length {y : fold_Field} : ∀ fs : List fold_Field, (fput fold_Field.Name y fs).length ≤ fs.length + 1
  | [] => by simp [fput]
  | a :: fs => by
    unfold fput
    have := fput_length (y := y) fs
    split
    · simp
    · simp only [List.length_cons]; omega
theorem fput_ne {y : fold_Field} (fs : List fold_Field) : fput fold_Field.Name y fs ≠ [] := by
  cases fs with
  | nil => simp [fput]
  | cons a fs => unfold fput; split <;> simp
theorem with_lookup (x : fold_B) (k q : List UInt8) : (fold_with x k).lookup q = if q = k then some ((x.lookup k).getD []) else x.lookup q := by
  unfold fold_with
  cases h : x.lookup k with
  | some fs =>
    simp only [Option.isNone_some, Bool.false_eq_true, if_false, Option.getD_some]
    by_cases hq : q = k
    · rw [if_pos hq, hq, h]
    · rw [if_neg hq]
  | none =>
    simp only [Option.isNone_none, if_true, Option.getD_none]
    revert h
    induction x with
    | nil =>
      intro h
      rw [List.nil_append, List.lookup_cons]
      by_cases hq : q = k
      · rw [if_pos hq, show (q == k) = true by simp [hq]]
      · rw [if_neg hq, show (q == k) = false by simp [hq]]
    | cons a x ih =>
      intro h
      rw [List.lookup_cons] at h
      rw [List.cons_append, List.lookup_cons, List.lookup_cons]
      cases hk : k == a.1 with
      | true => rw [hk] at h; cases h
      | false =>
        rw [hk] at h
        cases hq : q == a.1 with
        | true =>
          have e1 : q = a.1 := by simpa using hq
          have e2 : q ≠ k := fun e => by rw [← e, hq] at hk; cases hk
          rw [if_neg e2]
        | false => exact ih h
theorem set_lookup (x : fold_B) (k q : List UInt8) (y : fold_Field) : (fold_set (fold_with x k) k y).lookup q = if q = k then some (fput fold_Field.Name y ((x.lookup k).getD [])) else x.lookup q := by
  unfold fold_set
  rw [mset_lookup, with_lookup, with_lookup, if_pos rfl]
  by_cases hq : q = k
  · simp [hq]
  · simp [hq]
theorem nodup_lookup {β : Type} : ∀ {x : List (List UInt8 × β)}, (x.map (·.1)).Nodup → ∀ o ∈ x, x.lookup o.1 = some o.2
  | [], _, o, h => by simp at h
  | a :: x, hn, o, h => by
    rw [List.map_cons, List.nodup_cons] at hn
    rw [List.lookup_cons]
    rcases List.mem_cons.1 h with rfl | h
    · simp
    · have : (o.1 == a.1) = false := by
        rw [beq_eq_false_iff_ne]
        exact fun e => hn.1 (List.mem_map.2 ⟨o, h, e⟩)
      rw [this]
      exact nodup_lookup hn.2 o h
theorem set_keys (x : fold_B) (k : List UInt8) (y : fold_Field) (h : (x.map (·.1)).Nodup) : ((fold_set (fold_with x k) k y).map (·.1)).Nodup := by
  have h2 : ((fold_with x k).map (·.1)).Nodup := by
    unfold fold_with
    cases hl : x.lookup k with
    | some fs => simpa using h
    | none =>
      simp only [Option.isNone_none, if_true, List.map_append, List.map_cons, List.map_nil]
      rw [List.nodup_append]
      refine ⟨h, by simp, fun a ha b hb e => ?_⟩
      simp at hb
      subst hb
      subst e
      obtain ⟨o, ho, he⟩ := List.mem_map.1 ha
      have := nodup_lookup h o ho
      rw [he, hl] at this
      cases this
  exact (mset_keys k _ _ h2).1
theorem set_length (x : fold_B) (k : List UInt8) (y : fold_Field) : (fold_set (fold_with x k) k y).length ≤ x.length + 1 := by
  unfold fold_set fold_with
  cases hl : x.lookup k with
  | none =>
    simp only [Option.isNone_none, if_true]
    have : ∀ (l : fold_B) (v : List fold_Field) (v' : List fold_Field), (mset (l ++ [(k, v)]) k v').length ≤ l.length + 1 := by
      intro l v v'
      induction l with
      | nil => simp [mset]
      | cons a l ih =>
        rw [List.cons_append, mset]
        split
        · simp
        · simp only [List.length_cons]; omega
    exact this x _ _
  | some fs =>
    simp only [Option.isNone_some, Bool.false_eq_true, if_false]
    exact mset_length _ _ _
theorem canon_set {x : fold_B} {k : List UInt8} {y : fold_Field} (hk : (x.map (·.1)).Nodup) (hn : ∀ o ∈ x, (o.2.map (·.Name)).Nodup) :
    canonB (fold_set (fold_with x k) k y) = upd ON_ k (inObj k y.Name fun _ => y) (canonB x) := by
  refine SA_ext (SA_canonB (set_keys x k y hk)) (SA_upd (inObj_key k y.Name fun _ => y) (SA_canonB hk)) fun q => ?_
  rw [get_upd (inObj_key k y.Name fun _ => y) q (SA_canonB hk), get_canonB, get_canonB, get_canonB, set_lookup]
  by_cases hq : q = k
  · rw [if_pos hq, if_pos hq, hq]
    show some (⟨k, canonF (fput fold_Field.Name y ((x.lookup k).getD []))⟩ : fold_Object) = some (⟨k, _⟩ : fold_Object)
    congr 2
    have hnn : (((x.lookup k).getD []).map (·.Name)).Nodup := by
      cases hl : x.lookup k with
      | none => simp
      | some fs => exact hn _ (lookup_mem hl)
    have e : (((x.lookup k).map fun fs => (⟨k, canonF fs⟩ : fold_Object)).map (·.Fields)).getD [] = canonF ((x.lookup k).getD []) := by
      cases x.lookup k with
      | none => simp [canonF, srtN]
      | some fs => rfl
    rw [e]
    refine SA_ext (SA_canonF (fput_names hnn)) (SA_upd (fun o _ => rfl) (SA_canonF hnn)) fun p => ?_
    rw [get_upd (fun o _ => rfl) p (SA_canonF hnn), get_canonF, get_canonF, get_fput]
  · rw [if_neg hq, if_neg hq]
theorem find_get {fs : List fold_Field} {f : List UInt8} : fs.find? (fun q => f == q.Name) = get FN_ fs f := by
  unfold get
  congr 1
  funext q
  rw [Bool.eq_iff_iff, beq_iff_eq, beq_iff_eq]
  exact eq_comm
theorem eff_eq {n : Nat} {u : api_Update} {x : fold_B} {e : api_Effect} (h : BI n x) (he : EF e) (hn : n ≤ 1000000) :
    ∃ x', fold_eff u x e = some x' ∧ BI (n + 1) x' ∧ canonB x' = effT u (canonB x) e := by
  unfold fold_eff
  have hat : fold_at (fold_with x e.Object) e.Object e.Field = (get FN_ ((x.lookup e.Object).getD []) e.Field).getD fold_zero := by
    unfold fold_at
    rw [with_lookup, if_pos rfl, Option.getD_some, find_get]
  rw [hat]
  obtain ⟨y0, hy0⟩ : ∃ y0, y0 = (get FN_ ((x.lookup e.Object).getD []) e.Field).getD fold_zero := ⟨_, rfl⟩
  rw [← hy0]
  have hg0 : GF n y0 := by
    rw [hy0]
    cases hl : x.lookup e.Object with
    | none => exact GF_zero n
    | some fs =>
      cases hg : get FN_ fs e.Field with
      | none => simp only [Option.getD_some, hg]; exact GF_zero n
      | some y => simp only [Option.getD_some, hg]; exact h.good _ (lookup_mem hl) y (get_mem hg)
  have hg1 : GF n { y0 with Name := e.Field } := GF_named hg0 he.fld
  rw [fold_upd_eq hg1 hn, Option.bind_some]
  obtain ⟨y1, hy1⟩ : ∃ y1, y1 = updF u e { y0 with Name := e.Field } := ⟨_, rfl⟩
  rw [← hy1]
  have hg2 : GF (n + 1) y1 := by rw [hy1]; exact GF_upd hg1 he
  have hn1 : y1.Name = e.Field := by rw [hy1, updF_name]
  refine ⟨_, rfl, ?_, ?_⟩
  · have hmem : ∀ o ∈ fold_set (fold_with x e.Object) e.Object y1, o = (e.Object, fput fold_Field.Name y1 ((x.lookup e.Object).getD [])) ∨ o ∈ x := by
      intro o ho
      have hl := nodup_lookup (set_keys x e.Object y1 h.keys) o ho
      rw [set_lookup] at hl
      by_cases hq : o.1 = e.Object
      · rw [if_pos hq] at hl
        exact .inl (Prod.ext hq (Option.some.inj hl).symm)
      · rw [if_neg hq] at hl
        exact .inr (lookup_mem hl)
    have hin : ∀ o, o = (e.Object, fput fold_Field.Name y1 ((x.lookup e.Object).getD [])) ∨ o ∈ x → o.1.length ≤ 1000 ∧ o.2 ≠ [] ∧ (o.2.map (·.Name)).Nodup ∧ o.2.length ≤ n + 1 ∧ ∀ y ∈ o.2, GF (n + 1) y := by
      rintro o (rfl | ho)
      · refine ⟨he.obj, fput_ne _, fput_names ?_, ?_, fun y hy => ?_⟩
        · cases hl : x.lookup e.Object with
          | none => simp
          | some fs => exact h.names _ (lookup_mem hl)
        · refine Nat.le_trans (fput_length _) ?_
          cases hl : x.lookup e.Object with
          | none => simp
          | some fs => have := h.flen _ (lookup_mem hl); simpa using this
        · rcases fput_mem hy with rfl | hy
          · exact hg2
          · cases hl : x.lookup e.Object with
            | none => rw [hl] at hy; simp at hy
            | some fs => rw [hl] at hy; exact (h.good _ (lookup_mem hl) y hy).mono (by omega)
      · exact ⟨h.name o ho, h.ne o ho, h.names o ho, by have := h.flen o ho; omega, fun y hy => (h.good o ho y hy).mono (by omega)⟩
    exact ⟨set_keys x e.Object y1 h.keys, Nat.le_trans (set_length _ _ _) (by have := h.len; omega), fun o ho => (hin o (hmem o ho)).1, fun o ho => (hin o (hmem o ho)).2.1, fun o ho => (hin o (hmem o ho)).2.2.1, fun o ho => (hin o (hmem o ho)).2.2.2.1, fun o ho => (hin o (hmem o ho)).2.2.2.2⟩
  · rw [canon_set h.keys h.names]
    unfold effT
    refine upd_congr (inObj_key _ _ _) (SA_canonB h.keys) ?_ (inObj_key _ _ _)
    rw [get_canonB]
    unfold inObj
    have e1 : (((x.lookup e.Object).map fun fs => (⟨e.Object, canonF fs⟩ : fold_Object)).map (·.Fields)).getD [] = canonF ((x.lookup e.Object).getD []) := by
      cases x.lookup e.Object with
      | none => simp [canonF, srtN]
      | some fs => rfl
    have hnn : (((x.lookup e.Object).getD []).map (·.Name)).Nodup := by
      cases hl : x.lookup e.Object with
      | none => simp
      | some fs => exact h.names _ (lookup_mem hl)
    simp only [e1]
    congr 1
    rw [hn1]
    refine upd_congr (g := fun _ => y1) (g' := inFld u e) (fun o _ => hn1) (SA_canonF hnn) ?_ (inFld_key u e)
    rw [get_canonF]
    unfold inFld
    rw [← hy0]
    exact hy1
end Go.Proofs.Ytpfgdjfiimknlaa
