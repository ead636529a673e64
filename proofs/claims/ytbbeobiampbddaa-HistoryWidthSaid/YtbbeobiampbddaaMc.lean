/- slices.BinarySearch and slices.Insert at slices of strings that are the call's own. -/
import Derived.Test.YtbbeobiampbddaaMb
import Derived.Sort.Walk0
import Derived.Shelf.Spec.SearchS
import Derived.Shelf.Spec.SlicesInsertGrow
set_option linter.unusedVariables false
set_option linter.unusedSimpArgs false
namespace Go.Proofs.YtbbeobiampbddaaL
open Go Go.RowKit
/-! Bytes compared. -/
theorem bl_irrefl (a : List UInt8) : Op.bytesLess a a = false := by rw [Go.Proofs.bytesLess_eq]; simp [List.lt_irrefl]
theorem bl_trans {a b c : List UInt8} (h : Op.bytesLess a b = true) (k : Op.bytesLess b c = true) : Op.bytesLess a c = true := by
  rw [Go.Proofs.bytesLess_eq, decide_eq_true_eq] at *
  exact List.lt_trans h k
theorem bl_tri {a b : List UInt8} (h : Op.bytesLess a b = false) (k : Op.bytesLess b a = false) : a = b := by
  rw [Go.Proofs.bytesLess_eq, decide_eq_false_iff_not] at *
  exact List.le_antisymm k h
theorem bl_asymm {a b : List UInt8} (h : Op.bytesLess a b = true) : Op.bytesLess b a = false := by
  cases k : Op.bytesLess b a with
  | false => rfl
  | true => have := bl_trans h k; rw [bl_irrefl] at this; cases this
/-- Ascending, without duplicates. -/
abbrev Asc (l : List (List UInt8)) : Prop := l.Pairwise fun a b => Op.bytesLess a b = true
/-- Where a string is, or would be. -/
def posS : List (List UInt8) → List UInt8 → Nat
  | [], _ => 0
  | a :: l, s => if Op.bytesLess a s then posS l s + 1 else 0
theorem posS_le : ∀ (l : List (List UInt8)) (s : List UInt8), posS l s ≤ l.length
  | [], _ => Nat.le_refl _
  | a :: l, s => by
    unfold posS
    have := posS_le l s
    split
    · simp; exact this
    · simp
theorem posS_lt : ∀ (l : List (List UInt8)) (s : List UInt8) (t : Nat), t < posS l s → Op.bytesLess (l.getD t s) s = true
  | [], s, t, h => by simp [posS] at h
  | a :: l, s, t, h => by
    unfold posS at h
    split at h
    · rename_i ha
      cases t with
      | zero => exact ha
      | succ t => simpa using posS_lt l s t (by omega)
    · omega
theorem posS_ge : ∀ (l : List (List UInt8)) (s : List UInt8), Asc l → ∀ t, posS l s ≤ t → Op.bytesLess (l.getD t s) s = false
  | [], s, _, t, _ => by simp [bl_irrefl]
  | a :: l, s, h, t, ht => by
    have h1 := (List.pairwise_cons.1 h).1
    have h2 := (List.pairwise_cons.1 h).2
    unfold posS at ht
    split at ht
    · cases t with
      | zero => omega
      | succ t => simpa using posS_ge l s h2 t (by omega)
    · rename_i ha
      have ha : Op.bytesLess a s = false := by simpa using ha
      cases t with
      | zero => simpa using ha
      | succ t =>
        rw [List.getD_cons_succ]
        rcases Nat.lt_or_ge t l.length with hl | hl
        · have e : l.getD t s = l[t] := by simp [List.getD_eq_getElem?_getD, hl]
          rw [e]
          cases k : Op.bytesLess l[t] s with
          | false => rfl
          | true =>
            have := bl_trans (h1 _ (List.getElem_mem hl)) k
            rw [this] at ha; cases ha
        · rw [List.getD_eq_getElem?_getD, List.getElem?_eq_none hl]
          exact bl_irrefl s
theorem insS_pos : ∀ (l : List (List UInt8)) (s : List UInt8), insS l s = if posS l s < l.length ∧ l.getD (posS l s) s = s then l else l.take (posS l s) ++ s :: l.drop (posS l s)
  | [], s => by simp [insS, posS]
  | a :: l, s => by
    unfold insS posS
    cases ha : Op.bytesLess a s with
    | true =>
      rw [if_pos rfl, if_pos rfl, insS_pos l s]
      simp only [List.length_cons, Nat.add_lt_add_iff_right, List.getD_cons_succ, List.take_succ_cons, List.drop_succ_cons]
      split
      · rfl
      · rfl
    | false =>
      simp only [Bool.false_eq_true, if_false]
      cases he : a == s with
      | true =>
        have : a = s := by simpa using he
        simp [this]
      | false =>
        have : a ≠ s := by simpa using he
        simp [this]
section
variable {P : Program} {w : World} {w0 : Base} {ok0 : Nat → Prop} {Γ : List It} {Λ : List LObj} {ren : Go.Shelf.Ren}
open Go.Proofs Go.Shelf
theorem bsearch_own (L : Lays2.n26 P ren) {xs : List (List UInt8)} {s : List UInt8} {v : Value} (hs : St ok0 w0 w Γ Λ) (i : Nat) (hi : Λ[i]? = some (own tStr 9 v xs)) (ha : Asc xs) (hb : xs.length < 4611686018427387904) :
    Calls P (ren.f 26) #[v, bstr s] w fun e w' => e = .returned (.tuple #[.int .i64 (posS xs s : Nat), .bool (decide (posS xs s < xs.length ∧ xs.getD (posS xs s) s = s))]) ∧ ∃ q, w' = w.drewN q := by
  have hT := hs.ownT i hi
  obtain ⟨a, c, e, hc, hr⟩ := tSlice_V.1 hT
  have e : v = .slice a xs.length c := e
  subst e
  have empty : xs = [] → Calls P (ren.f 26) #[.slice a xs.length c, bstr s] w fun e w' => e = .returned (.tuple #[.int .i64 (posS xs s : Nat), .bool (decide (posS xs s < xs.length ∧ xs.getD (posS xs s) s = s))]) ∧ ∃ q, w' = w.drewN q := by
    intro hx
    subst hx
    refine (Any2.slices_BinarySearch_string_empty L a c ⟨s.toArray⟩ w).mono ?_
    rintro e w' ⟨rfl, rfl⟩
    exact ⟨by simp [posS], 0, rfl⟩
  rcases hr with hx | ⟨g, off, rfl, _, hlt, hcell⟩
  · exact empty hx
  · have key := Any2.slices_BinarySearch_string L g off xs.length c (fun j => ⟨(xs.getD j s).toArray⟩) ⟨s.toArray⟩ w hb (fun j hj => by
      have hx : xs[j]? = some xs[j] := List.getElem?_eq_getElem hj
      obtain ⟨cs, hR, hcs⟩ := hcell j _ hx
      have hR : cs = [bstr xs[j]] := hR
      subst hR
      have := hcs 0 _ rfl
      have e1 : off + j * tStr.sz + 0 = off + j := by show off + j * 1 + 0 = _; omega
      rw [e1] at this
      rw [this]
      simp [bstr, List.getD_eq_getElem?_getD, hj])
    refine key.mono ?_
    rintro e w' ⟨rfl, q, rfl⟩
    have e1 : Lib.bsGo (fun t => Op.bytesLess (ByteArray.toList ⟨(xs.getD t s).toArray⟩) (ByteArray.toList ⟨s.toArray⟩)) xs.length 0 xs.length = posS xs s := by
      refine Lib.bsGo_spec _ (posS xs s) (fun t ht => ?_) (fun t ht => ?_) xs.length 0 xs.length (by omega) (Nat.zero_le _) (posS_le xs s)
      · rw [bl, bl]; exact posS_lt xs s t ht
      · rw [bl, bl]; exact posS_ge xs s ha t ht
    refine ⟨?_, q, rfl⟩
    simp only [e1]
    congr 5
    have : (({ data := (xs.getD (posS xs s) s).toArray } : ByteArray) = ⟨s.toArray⟩) ↔ xs.getD (posS xs s) s = s := by
      constructor
      · intro h
        have := congrArg ByteArray.toList h
        rw [bl, bl] at this
        exact this
      · intro h; rw [h]
    simp only [this]
theorem wset_eq (g : Nat) : ∀ (vs : List Value) (j : Nat) (w : World), World.setCells w g j vs = setCells w g j vs
  | [], _, _ => rfl
  | v :: vs, j, w => by rw [World.setCells, setCells, wset_eq g vs]
theorem drew_heap (w : World) : w.drew.heap = w.heap := rfl
theorem Off.drew (bs : List Nat) (w : World) : Off bs w w.drew := ⟨rfl, rfl, rfl, Nat.le_refl _, fun _ _ _ => rfl⟩
/-- A slice of strings of the call's own, by its block. -/
theorem own_str {v : Value} {xs : List (List UInt8)} {ok : Nat → Prop} {bs : List Nat} (h : (own tStr 9 v xs).H ok bs w) :
    (∃ a, v = .slice a 0 0 ∧ xs = [] ∧ bs = []) ∨ ∃ g c cur, v = .slice (some ⟨g, 0, none⟩) xs.length c ∧ 0 < c ∧ bs = [g] ∧ w.heap[g]? = some (.cells (xs.map bstr ++ cur).toArray 9 (0, 0)) ∧ xs.length + cur.length = c ∧ c ≤ maxLen := by
  rcases h with ⟨_, h1, h2, a, h3⟩ | ⟨h0, cs, h1, h2, h3⟩
  · exact .inl ⟨a, h3, h2, h1⟩
  · obtain ⟨_, h2⟩ := h2
    rcases h2 with ⟨rfl, _⟩ | ⟨g, c, cur, rfl, _, hg, q1, q2, q3, q4⟩
    · simp [slCap] at h0
    · have ecs : cs = xs.map bstr := by
        have hl := h3.1
        have hl : cs.length = xs.length := by rw [hl]; exact Nat.mul_one _
        refine List.ext_getElem? fun j => ?_
        rcases Nat.lt_or_ge j xs.length with hj | hj
        · have := h3.2 j _ (List.getElem?_eq_getElem hj)
          have this : ((cs.drop (j * 1)).take 1) = [bstr xs[j]] := this
          rw [Nat.mul_one, List.drop_eq_getElem_cons (by omega), List.take_succ_cons, List.take_zero] at this
          rw [List.getElem?_eq_getElem (by omega), List.getElem?_map, List.getElem?_eq_getElem hj]
          simpa using this
        · rw [List.getElem?_eq_none (by omega), List.getElem?_eq_none (by simpa using hj)]
      subst ecs
      have q4 : cur.toList.take (xs.length * 1) = xs.map bstr := q4
      have q3 : cur.size = c * 1 := q3
      rw [Nat.mul_one] at q3 q4
      refine .inr ⟨g, c, cur.toList.drop xs.length, rfl, h0, by rw [h1]; rfl, ?_, ?_, q2⟩
      · rw [← q4, List.take_append_drop]
        simpa using hg
      · rw [List.length_drop, Array.length_toList (xs := cur)]
        omega
theorem own_of {g c : Nat} {xs : List (List UInt8)} {cur : List Value} (ok : Nat → Prop) (hc : 0 < c) (hg : w.heap[g]? = some (.cells (xs.map bstr ++ cur).toArray 9 (0, 0))) (hl : xs.length + cur.length = c) (hm : c ≤ maxLen) :
    (own tStr 9 (.slice (some ⟨g, 0, none⟩) xs.length c) xs).H ok [g] w := by
  refine .inr ⟨hc, xs.map bstr, rfl, ⟨by simp [tStr], .inr ⟨g, c, _, rfl, Nat.zero_le _, hg, by omega, hm, ?_, ?_⟩⟩, cells_str xs⟩
  · show _ = c * 1
    simp; omega
  · show List.take (xs.length * 1) _ = _
    simp
theorem insert_own (L : Lays2.n22 P ren) (h9 : ren.t 9 = 9) {xs : List (List UInt8)} {s : List UInt8} {v : Value} {gl k : Nat} (hs : St ok0 w0 w Γ (blk gl 9 [bstr s] :: Λ)) (i : Nat) (hi : Λ[i]? = some (own tStr 9 v xs)) (hk : k ≤ xs.length) (hb : (xs.length + 1) * 16 ≤ 140737488355328) :
    Calls P (ren.f 22) #[v, .int .i64 (k : Nat), .slice (some ⟨gl, 0, none⟩) 1 1] w fun e w' => ∃ v', e = .returned v' ∧ St ok0 w0 w' Γ (Λ.set i (own tStr 9 v' (xs.take k ++ s :: xs.drop k))) := by
  have hgl := hs.blk_at 0 rfl
  have hs2 := hs.freezeB (A := tStr) (x := s) 0 rfl fun _ _ => rfl
  have hs2 : St ok0 w0 w (pl tStr s ⟨gl, 0, none⟩ :: Γ) Λ := hs2
  obtain ⟨ok, bs, ho, hA, hn, hbs, hput⟩ := hs2.split i hi
  have hgok : ok gl := ((hA.get 0 rfl : (pl tStr s ⟨gl, 0, none⟩).holds ok w)).2.1
  have hlt := lt_of_some hgl
  have hvs : ∀ j u, ([bstr s] : List Value)[j]? = some u → w.cell? ⟨gl, 0 + j, none⟩ = some u := by
    intro j u hu
    cases j with
    | zero => rw [blk_cell hgl]; exact hu
    | succ j => simp at hu
  have h1v : ∀ u ∈ ([bstr s] : List Value), u.oneCell' = true := by intro u hu; simp at hu; subst hu; rfl
  have h1c : ∀ u ∈ xs.map bstr, u.oneCell' = true := by intro u hu; obtain ⟨x, _, rfl⟩ := List.mem_map.1 hu; rfl
  have hlen : (xs.take k ++ s :: xs.drop k).length = xs.length + 1 := by simp; omega
  have hmap : (xs.take k ++ s :: xs.drop k).map bstr = (xs.map bstr).take k ++ bstr s :: (xs.map bstr).drop k := by simp
  have fin : ∀ {v' : Value} {bs' : List Nat} {w' : World}, Off bs w w' → bs'.Nodup → (∀ b ∈ bs', (b ∈ bs ∨ w.heap.size ≤ b) ∧ b < w'.heap.size) → (∀ ok', (own tStr 9 v' (xs.take k ++ s :: xs.drop k)).H ok' bs' w') → St ok0 w0 w' Γ (Λ.set i (own tStr 9 v' (xs.take k ++ s :: xs.drop k))) :=
    fun h1 h2 h3 h4 => (hput _ _ _ h1 h2 h3 fun ok' _ => h4 ok').sub fun it hi => List.mem_cons_of_mem _ hi
  -- a new block
  have fresh : ∀ (c' : Nat) (w' : World) (cur : List Value), w'.heap[w.heap.size]? = some (.cells ((xs.take k ++ s :: xs.drop k).map bstr ++ cur).toArray 9 (0, 0)) → Below w.heap.size w w' → xs.length + 1 + cur.length = c' → c' ≤ maxLen →
      St ok0 w0 w' Γ (Λ.set i (own tStr 9 (.slice (some ⟨w.heap.size, 0, none⟩) (xs.length + 1) c') (xs.take k ++ s :: xs.drop k))) := by
    intro c' w' cur h1 h2 h3 h4
    refine fin (bs' := [w.heap.size]) (Off.of_below h2 bs) (by simp) (fun b hb => ?_) fun ok' => ?_
    · simp at hb; subst hb
      exact ⟨.inr (Nat.le_refl _), lt_of_some h1⟩
    · have := own_of (w := w') (g := w.heap.size) (c := c') (xs := xs.take k ++ s :: xs.drop k) (cur := cur) ok' (by omega) h1 (by omega) h4
      rw [hlen] at this
      exact this
  have hge := fun c => grownCap_ge w (xs.length + 1) c (ren.t 9)
  have hle := fun c => grownCap_le_maxLen w (xs.length + 1) c (ren.t 9) (by simp only [maxLen]; omega)
  have hz : ∀ n, (Builtin.zeroCells (Value.string ⟨#[]⟩).cells n).size = n := by intro n; simp [Builtin.zeroCells, Value.cells]
  have endgrow : ∀ (base : Option Addr) (c : Nat), k = xs.length → xs.length ≤ c → c < xs.length + 1 → v = .slice base xs.length c → (base = none → xs.length = 0) → (∀ a, base = some a → ∀ (j : Nat) (u : Value), (xs.map bstr)[j]? = some u → w.cell? (a.add j) = some u) →
      Calls P (ren.f 22) #[v, .int .i64 (k : Nat), .slice (some ⟨gl, 0, none⟩) 1 1] w fun e w' => ∃ v', e = .returned v' ∧ St ok0 w0 w' Γ (Λ.set i (own tStr 9 v' (xs.take k ++ s :: xs.drop k))) := by
    intro base c ek hc1 hc2 ev hnil hcs
    subst ev
    rw [ek]
    refine (Any2.slices_Insert_string_end_grow L base xs.length c gl 0 1 1 (xs.map bstr) [bstr s] w (by omega) hc1 hc2 hb (by simp) rfl hnil hcs hvs h1v).mono ?_
    rintro e w' ⟨rfl, rfl⟩
    refine ⟨_, rfl, ?_⟩
    have := fresh (grownCap w (xs.length + 1) c (ren.t 9)) (cur := (Builtin.zeroCells (Value.string ⟨#[]⟩).cells (grownCap w (xs.length + 1) c (ren.t 9) - (xs.length + 1))).toList) (w' := w.drew.alloc (.cells ((xs.map bstr ++ [bstr s]).toArray ++ Builtin.zeroCells (Value.string ⟨#[]⟩).cells (grownCap w (xs.length + 1) c (ren.t 9) - (xs.length + 1))) (ren.t 9))) ?_ ?_ ?_ (hle c)
    · rw [ek] at this; exact this
    · have := heap_new w.drew (.cells ((xs.map bstr ++ [bstr s]).toArray ++ Builtin.zeroCells (Value.string ⟨#[]⟩).cells (grownCap w (xs.length + 1) c (ren.t 9) - (xs.length + 1))) (ren.t 9))
      rw [drew_heap] at this
      rw [this, hmap, ek, h9]
      have e1 : (xs.map bstr).take xs.length = xs.map bstr := List.take_of_length_le (by simp)
      have e2 : (xs.map bstr).drop xs.length = [] := List.drop_of_length_le (by simp)
      rw [e1, e2]
      congr 2
      simp
    · exact ⟨rfl, rfl, rfl, by simp [size_alloc, drew_heap], fun b hb => (below_alloc w.drew _).block b hb⟩
    · have e3 : ∀ n, (Builtin.zeroCells (Value.string ⟨#[]⟩).cells n).toList.length = n := fun n => by rw [Array.length_toList (xs := Builtin.zeroCells (Value.string ⟨#[]⟩).cells n), hz]
      rw [e3]
      have := hge c
      omega
  rcases own_str ho with ⟨a, rfl, rfl, rfl⟩ | ⟨g, c, cur, rfl, hc0, rfl, hg, hl, hm⟩
  · exact endgrow a 0 (by simpa using hk) (Nat.le_refl _) (by simp) rfl (fun _ => rfl) (by simp)
  · have hne : gl ≠ g := fun e => by
      have := (hbs g (by simp)).1
      rw [e] at hgok
      exact this hgok
    have hcell : ∀ j, w.cell? ⟨g, j, none⟩ = (xs.map bstr ++ cur)[j]? := blk_cell hg
    have hcs0 : ∀ (j : Nat) (u : Value), (xs.map bstr)[j]? = some u → w.cell? ⟨g, 0 + j, none⟩ = some u := by
      intro j u hu
      have hj := (List.getElem?_eq_some_iff.1 hu).1
      rw [Nat.zero_add, hcell, List.getElem?_append_left hj]
      exact hu
    have hgsz : g < w.heap.size := lt_of_some hg
    have hcs1 : ∀ a, some (⟨g, 0, none⟩ : Addr) = some a → ∀ (j : Nat) (u : Value), (xs.map bstr)[j]? = some u → w.cell? (a.add j) = some u := by
      intro a ea j u hu
      cases ea
      rw [addr_add]
      exact hcs0 j u hu
    by_cases hroom : xs.length + 1 ≤ c
    · -- there is room
      have hcur : 0 < cur.length := by omega
      obtain ⟨u0, cur', rfl⟩ : ∃ u0 cur', cur = u0 :: cur' := by
        cases cur with
        | nil => simp at hcur
        | cons u t => exact ⟨u, t, rfl⟩
      have inpl : ∀ (w' : World) (vs : List Value) (j : Nat), w' = setCells (setCells w.drew g j vs) g k [bstr s] ∨ (vs = [] ∧ w' = setCells w g k [bstr s]) → setAt (setAt (xs.map bstr ++ u0 :: cur') j vs) k [bstr s] = (xs.take k ++ s :: xs.drop k).map bstr ++ cur' →
          St ok0 w0 w' Γ (Λ.set i (own tStr 9 (.slice (some ⟨g, 0, none⟩) (xs.length + 1) c) (xs.take k ++ s :: xs.drop k))) := by
        intro w' vs j hw hset
        have hheap : w'.heap[g]? = some (.cells ((xs.take k ++ s :: xs.drop k).map bstr ++ cur').toArray 9 (0, 0)) := by
          rw [← hset]
          rcases hw with rfl | ⟨rfl, rfl⟩
          · exact heap_setCells [bstr s] (heap_setCells vs (w := w.drew) hg)
          · exact heap_setCells [bstr s] hg
        have hoff : Off [g] w w' := by
          rcases hw with rfl | ⟨rfl, rfl⟩
          · exact ((Off.drew [g] w).trans (off_setCells g vs _ _)).trans (off_setCells g [bstr s] _ _)
          · exact off_setCells g [bstr s] _ _
        refine fin (bs' := [g]) hoff (by simp) (fun b hb => ?_) fun ok' => ?_
        · simp at hb; subst hb
          exact ⟨.inl (by simp), lt_of_some hheap⟩
        · have := own_of (w := w') (g := g) (c := c) (xs := xs.take k ++ s :: xs.drop k) (cur := cur') ok' hc0 hheap (by simp at hl ⊢; omega) hm
          rw [hlen] at this
          exact this
      have hfz : ∀ j, w.frozen? ⟨g, j, none⟩ = false := by
        intro j
        simp [World.frozen?, hg]
      rcases Nat.lt_or_ge k xs.length with hk1 | hk1
      · refine (Any2.slices_Insert_string_shift L g 0 xs.length c k gl 0 1 1 (xs.map bstr) [bstr s] w hk1 (by omega) hroom (by unfold maxLen at hm; omega) hne (by simp) rfl hcs0 (fun j hj => ?_) (fun j hj => hfz _) hvs h1c h1v 9 9 1 c ?_ ?_ (by omega) ?_ ?_).mono ?_
        · rw [Nat.zero_add, hcell, List.getElem?_eq_getElem (by simp; omega)]
          rfl
        · simp [World.shape?, hgl]
        · simp [World.shape?, hg]
          simp at hl; omega
        · simp [World.frozen?, hgl]
        · simp [World.frozen?, hgl]
        · rintro e w' ⟨rfl, rfl⟩
          refine ⟨_, rfl, inpl _ ((xs.map bstr).drop k) (k + 1) (.inl ?_) ?_⟩
          · rw [wset_eq, wset_eq, Nat.zero_add, Nat.zero_add]
          · rw [hmap]
            have e1 : setAt (xs.map bstr ++ u0 :: cur') (k + 1) ((xs.map bstr).drop k) = (xs.map bstr ++ u0 :: cur').take (k + 1) ++ (xs.map bstr).drop k ++ (xs.map bstr ++ u0 :: cur').drop (k + 1 + ((xs.map bstr).drop k).length) := setAt_eq _ _ _ (by simp; omega)
            have e2 : (xs.map bstr ++ u0 :: cur').drop (k + 1 + ((xs.map bstr).drop k).length) = cur' := by
              have : k + 1 + ((xs.map bstr).drop k).length = (xs.map bstr).length + 1 := by simp; omega
              rw [this, ← List.drop_drop, List.drop_left]
              rfl
            have e3 : (xs.map bstr ++ u0 :: cur').take (k + 1) = (xs.map bstr).take k ++ [(xs.map bstr)[k]'(by simpa using hk1)] := by
              rw [List.take_append_of_le_length (by simp; omega), List.take_succ_eq_append_getElem (by simpa using hk1)]
            rw [e1, e2, e3, setAt_eq _ _ _ (by simp; omega)]
            have e4 : ((xs.map bstr).take k ++ [(xs.map bstr)[k]'(by simpa using hk1)] ++ (xs.map bstr).drop k ++ cur').take k = (xs.map bstr).take k := by
              rw [List.append_assoc, List.append_assoc, List.take_append_of_le_length (by simp; omega), List.take_of_length_le (by simp; omega)]
            have e5 : ((xs.map bstr).take k ++ [(xs.map bstr)[k]'(by simpa using hk1)] ++ (xs.map bstr).drop k ++ cur').drop (k + 1) = (xs.map bstr).drop k ++ cur' := by
              have hl1 : k + 1 = ((xs.map bstr).take k ++ [(xs.map bstr)[k]'(by simpa using hk1)]).length := by simp; omega
              rw [List.append_assoc, hl1, List.drop_left]
            rw [e4, show k + [bstr s].length = k + 1 from rfl, e5]
            simp
      · have ek : k = xs.length := by omega
        rw [ek]
        refine (Any2.slices_Insert_string_end_room L g 0 xs.length c gl 0 1 1 [bstr s] w (by omega) hroom (by unfold maxLen at hm; omega) rfl (fun j hj => ?_) (fun j hj => hfz _) hvs h1v).mono ?_
        · rw [Nat.zero_add, hcell, List.getElem?_eq_getElem (by simp; omega)]
          rfl
        · rintro e w' ⟨rfl, rfl⟩
          refine ⟨_, rfl, ?_⟩
          have := inpl (World.setCells w g (0 + xs.length) [bstr s]) [] 0 (.inr ⟨rfl, by rw [wset_eq, Nat.zero_add, ek]⟩) ?_
          · rw [ek] at this; exact this
          · rw [hmap, ek]
            show setAt (xs.map bstr ++ u0 :: cur') xs.length [bstr s] = _
            have hl1 : xs.length = (xs.map bstr).length := by simp
            rw [setAt_eq _ _ _ (by simp), hl1, List.take_left, List.take_of_length_le (Nat.le_refl _), List.drop_of_length_le (Nat.le_refl _), show [bstr s].length = 1 from rfl, ← List.drop_drop, List.drop_left]
            simp
    · have hcl : c = xs.length := by omega
      rcases Nat.lt_or_ge k xs.length with hk1 | hk1
      · refine (Any2.slices_Insert_string_grow L g 0 xs.length c k gl 0 1 1 (xs.map bstr) [bstr s] w hk1 (by omega) (by omega) (by omega) hb (by simp) rfl hcs0 hvs h1c h1v).mono ?_
        rintro e w' ⟨rfl, rfl⟩
        refine ⟨_, rfl, ?_⟩
        have hgc := hge c
        obtain ⟨W1, hW1⟩ : ∃ W1, w.alloc (.cells (((xs.map bstr).take k).toArray ++ Builtin.zeroCells (Value.string ⟨#[]⟩).cells (xs.length + 1 - k) ++ Builtin.zeroCells (Value.string ⟨#[]⟩).cells (grownCap w (xs.length + 1) c (ren.t 9) - (xs.length + 1))) (ren.t 9)) = W1 := ⟨_, rfl⟩
        have hn1 := heap_new w (.cells (((xs.map bstr).take k).toArray ++ Builtin.zeroCells (Value.string ⟨#[]⟩).cells (xs.length + 1 - k) ++ Builtin.zeroCells (Value.string ⟨#[]⟩).cells (grownCap w (xs.length + 1) c (ren.t 9) - (xs.length + 1))) (ren.t 9))
        have hb1 := below_alloc w (.cells (((xs.map bstr).take k).toArray ++ Builtin.zeroCells (Value.string ⟨#[]⟩).cells (xs.length + 1 - k) ++ Builtin.zeroCells (Value.string ⟨#[]⟩).cells (grownCap w (xs.length + 1) c (ren.t 9) - (xs.length + 1))) (ren.t 9))
        rw [hW1] at hn1 hb1 ⊢
        rw [wset_eq, wset_eq]
        obtain ⟨Z1, hZ1⟩ : ∃ Z1, (Builtin.zeroCells (Value.string ⟨#[]⟩).cells (xs.length + 1 - k)).toList = Z1 := ⟨_, rfl⟩
        obtain ⟨Z2, hZ2⟩ : ∃ Z2, (Builtin.zeroCells (Value.string ⟨#[]⟩).cells (grownCap w (xs.length + 1) c (ren.t 9) - (xs.length + 1))).toList = Z2 := ⟨_, rfl⟩
        have hz1 : Z1.length = xs.length + 1 - k := by rw [← hZ1, Array.length_toList (xs := Builtin.zeroCells (Value.string ⟨#[]⟩).cells (xs.length + 1 - k)), hz]
        have hz2 : Z2.length = grownCap w (xs.length + 1) c (ren.t 9) - (xs.length + 1) := by rw [← hZ2, Array.length_toList (xs := Builtin.zeroCells (Value.string ⟨#[]⟩).cells (grownCap w (xs.length + 1) c (ren.t 9) - (xs.length + 1))), hz]
        have hn2 : W1.heap[w.heap.size]? = some (.cells ((xs.map bstr).take k ++ Z1 ++ Z2).toArray 9 (0, 0)) := by
          rw [hn1, ← hZ1, ← hZ2, h9]
          simp
        have hl0 : ((xs.map bstr).take k).length = k := by simp; omega
        have hset : setAt (setAt ((xs.map bstr).take k ++ Z1 ++ Z2) k [bstr s]) (k + 1) ((xs.map bstr).drop k) = (xs.take k ++ s :: xs.drop k).map bstr ++ Z2 := by
          have e1 : ((xs.map bstr).take k ++ Z1 ++ Z2).take k = (xs.map bstr).take k := by
            rw [List.append_assoc, List.take_append_of_le_length (by omega), List.take_of_length_le (by omega)]
          have e0 := setAt_eq [bstr s] ((xs.map bstr).take k ++ Z1 ++ Z2) k (by rw [List.length_append, List.length_append, hz1, hl0, List.length_singleton]; omega)
          rw [e1] at e0
          rw [hmap, e0, setAt_eq _ _ _ (by simp only [List.length_append, List.length_drop, List.length_map, List.length_singleton, hz1, hl0]; omega)]
          have e2 : ((xs.map bstr).take k ++ [bstr s] ++ ((xs.map bstr).take k ++ Z1 ++ Z2).drop (k + [bstr s].length)).take (k + 1) = (xs.map bstr).take k ++ [bstr s] := by
            rw [List.take_append_of_le_length (by simp; omega), List.take_of_length_le (by simp; omega)]
          have e3 : ((xs.map bstr).take k ++ [bstr s] ++ ((xs.map bstr).take k ++ Z1 ++ Z2).drop (k + [bstr s].length)).drop (k + 1 + ((xs.map bstr).drop k).length) = Z2 := by
            have q1 : k + 1 = ((xs.map bstr).take k ++ [bstr s]).length := by simp; omega
            rw [← List.drop_drop, q1, List.drop_left, List.drop_drop]
            have q2 : k + [bstr s].length + ((xs.map bstr).drop k).length = ((xs.map bstr).take k ++ Z1).length := by simp [hz1]; omega
            rw [q2, List.drop_left]
          rw [e2, e3]
          simp
        have hheap : (setCells (setCells W1.drew w.heap.size k [bstr s]).drew w.heap.size (k + 1) ((xs.map bstr).drop k)).heap[w.heap.size]? = some (.cells ((xs.take k ++ s :: xs.drop k).map bstr ++ Z2).toArray 9 (0, 0)) := by
          rw [← hset]
          exact heap_setCells _ (w := (setCells W1.drew w.heap.size k [bstr s]).drew) (heap_setCells [bstr s] (w := W1.drew) hn2)
        refine fresh _ _ Z2 hheap ?_ (by rw [hz2]; omega) (hle c)
        have o1 : Off [w.heap.size] W1 (setCells (setCells W1.drew w.heap.size k [bstr s]).drew w.heap.size (k + 1) ((xs.map bstr).drop k)) :=
          ((Off.drew _ W1).trans (off_setCells _ _ _ _)).trans ((Off.drew _ _).trans (off_setCells _ _ _ _))
        exact ⟨o1.os.trans hb1.os, o1.tape.trans hb1.tape, o1.output.trans hb1.output, Nat.le_trans hb1.size o1.size, fun b hb => (o1.block b (Nat.lt_of_lt_of_le hb hb1.size) (by simp; omega)).trans (hb1.block b hb)⟩
      · exact endgrow _ c (by omega) (by omega) (by omega) rfl (by intro h; cases h) hcs1
end
end Go.Proofs.YtbbeobiampbddaaL
