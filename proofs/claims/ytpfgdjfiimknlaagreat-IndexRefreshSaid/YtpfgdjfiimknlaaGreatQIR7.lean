/- What the row leans on, as few texts. -/
import Derived.Test.YtpfgdjfiimknlaaGreatQIR6
import Derived.Test.YtpfgdjfiimknlaaGreatQIR1
import Derived.Test.YtpfgdjfiimknlaaGreatQIR3
set_option linter.unusedVariables false
set_option linter.unusedSimpArgs false
namespace Go.Proofs.YtpfgdjfiimknlaaGreat
section
open Go Go.Proofs.YtpfgdjfiimknlaaGreatL
theorem Y97 (a b : Y05) : Y2b a b = some (Y28 a b) := by
 unfold Y2b
 rw [Y5i, Option.bind_some, Y5o, Option.bind_some, Y66, Option.bind_some, or_eq, Option.bind_some]
 rfl
theorem Y7j (x y : Int) : cmpI y x = - cmpI x y := by
 unfold cmpI
 split <;> split <;> omega
theorem Y9H (x y : List UInt8) : cmpS y x = - cmpS x y := by
 unfold cmpS
 cases h1 : Op.bytesLess x y with
 | true => rw [bl_asymm h1]; rfl
 | false => cases h2 : Op.bytesLess y x <;> rfl
theorem Y5T (a b : Y05) : Y28 b a = - Y28 a b := by
 unfold Y28
 rw [Y7j a.f_Type, Y7j a.N, Y9H a.S]
 by_cases h1 : cmpI a.f_Type b.f_Type = 0
 ·by_cases h2 : cmpI a.N b.N = 0
  ·simp [h1, h2]
  ·simp [h1, h2]
 ·simp [h1]
theorem Y78 (a b : Y05) : 0 < Y28 a b ↔ Y1W b a := by
 rw [← Y2n, Y5T b a]
 omega
theorem Y4R (a b : Y05) : Y28 a b ≤ 0 ↔ ¬ Y1W b a := by
 rw [← Y78]
 omega
theorem Y5S (a b : Y05) : Y28 a b = 0 ↔ a = b := by
 constructor
 ·intro h
  refine Y5R ?_ ?_
  ·rw [← Y2n]; omega
  ·rw [← Y78]; omega
 ·rintro rfl
  have := Y5T a a
  omega
theorem Y7N (a b : Y05) : Y28 a b = -1 ∨ Y28 a b = 0 ∨ Y28 a b = 1 := by
 have hI : ∀ x y : Int, cmpI x y = -1 ∨ cmpI x y = 0 ∨ cmpI x y = 1 := fun x y => by
  unfold cmpI; split
  ·exact .inl rfl
  ·split
   ·exact .inr (.inr rfl)
   ·exact .inr (.inl rfl)
 unfold Y28
 split
 ·exact hI _ _
 ·split
  ·exact hI _ _
  ·unfold cmpS
   split
   ·exact .inl rfl
   ·split
    ·exact .inr (.inr rfl)
    ·exact .inr (.inl rfl)
theorem Y7H (a b : Y05) : Y0U (kc a) (kc b) = some (Y28 a b) := by
 have hj : ∀ c : Bool, (c = true ↔ Y1W a b) → Y0U.j1 (kc a) (kc b) c = some (Y28 a b) := by
  intro c hc
  unfold Y0U.j1
  have hv := Y7N a b
  cases c with
  | true =>
   have := (Y2n a b).2 (hc.1 rfl)
   rw [if_pos rfl]
   congr 1
   omega
  | false =>
   have hn : ¬ Y28 a b < 0 := fun h => by
    have := hc.2 ((Y2n a b).1 h)
    cases this
   rw [if_neg (by simp)]
   by_cases he : a = b
   ·subst he
    rw [if_pos (by simp), (Y5S a a).2 rfl]
   ·rw [if_neg (by
     rw [decide_eq_true_eq]
     exact fun h => he (Y9s h))]
    have : Y28 a b ≠ 0 := fun h => he ((Y5S a b).1 h)
    congr 1
    omega
 unfold Y0U
 show (if decide (a.f_Type < b.f_Type) = true then Y0U.j1 (kc a) (kc b) true else if (a.f_Type == b.f_Type) = true then (if decide (a.N < b.N) = true then Y0U.j1 (kc a) (kc b) true else if (a.N == b.N) = true then Y0U.j1 (kc a) (kc b) (Op.bytesLess a.S b.S) else Y0U.j1 (kc a) (kc b) false) else Y0U.j1 (kc a) (kc b) false) = _
 by_cases h1 : a.f_Type < b.f_Type
 ·rw [if_pos (by simpa using h1)]
  exact hj true (by simp [Y1W, h1])
 ·rw [if_neg (by simpa using h1)]
  by_cases h2 : a.f_Type = b.f_Type
  ·rw [if_pos (by simpa using h2)]
   by_cases h3 : a.N < b.N
   ·rw [if_pos (by simpa using h3)]
    exact hj true (by simp [Y1W, h2, h3])
   ·rw [if_neg (by simpa using h3)]
    by_cases h4 : a.N = b.N
    ·rw [if_pos (by simpa using h4)]
     exact hj _ (by simp [Y1W, h2, h4])
    ·rw [if_neg (by simpa using h4)]
     exact hj false (by simp [Y1W, h2, h3, h4])
  ·rw [if_neg (by simpa using h2)]
   exact hj false (by simp [Y1W, h1, h2])
theorem Y6o {α β : Type} [DecidableEq β] {step : Int → Option (Int ⊕ (Unit ⊕ Bool))} (c : α → β) (xs : List α) (ys : List β) (hl : xs.length = ys.length)
  (hs : ∀ (k : Nat) (h : k < xs.length), step (k : Int) = if c xs[k] = ys[k]'(by omega) then some (.inl ((k + 1 : Nat) : Int)) else some (.inr (.inr false))) (he : step (xs.length : Int) = some (.inr (.inl ()))) :
  Y19 step 0 = some (if xs.map c = ys then .inl () else .inr false) := by
 have : ∀ m k, k + m = xs.length → Y19 step (k : Int) = some (if (xs.drop k).map c = ys.drop k then .inl () else .inr false) := by
  intro m
  induction m with
  | zero =>
   intro k hk
   have hk : k = xs.length := by omega
   subst hk
   rw [Y2e he, List.drop_length, hl, List.drop_length]
   rfl
  | succ m ih =>
   intro k hk
   have hk' : k < xs.length := by omega
   rw [List.drop_eq_getElem_cons hk', List.drop_eq_getElem_cons (show k < ys.length by omega), List.map_cons]
   have h1 := hs k hk'
   by_cases hc : c xs[k] = ys[k]'(by omega)
   ·rw [if_pos hc] at h1
    rw [Y2m h1, ih (k + 1) (by omega), hc]
    simp only [List.cons.injEq, true_and]
   ·rw [if_neg hc] at h1
    rw [Y2e h1, if_neg (fun h => hc (List.cons.inj h).1)]
 have h := this xs.length 0 (by omega)
 rw [List.drop_zero, List.drop_zero] at h
 exact h
theorem Y7F {a b : List (List UInt8)} (hl : a.length ≤ 4611686018427387904) : Y0M a b = some (decide (a = b)) := by
 unfold Y0M
 by_cases h : a.length = b.length
 ·rw [if_neg (by simp [h])]
  have key : Y19 (Y0M.l1 a b) 0 = some (if a.map (fun x => x) = b then .inl () else .inr false) := by
   refine Y6o (fun x => x) a b h (fun k hk => ?_) ?_
   ·unfold Y0M.l1
    simp only [Y1k hk, if_true, Y1a hk, Y1a (show k < b.length by omega), Option.bind_some]
    by_cases he : a[k] = b[k]'(by omega)
    ·rw [if_neg (by simpa using he), if_pos he, Y13, Y2G hk (by omega)]
    ·rw [if_pos (by simpa using he), if_neg he]
   ·unfold Y0M.l1
    simp only [Y16, Bool.false_eq_true, if_false]
  rw [key, Option.bind_some, List.map_id']
  by_cases he : a = b
  ·rw [if_pos he]; simp [he, Y0M.j1]
  ·rw [if_neg he]; simp [he]
 ·rw [if_pos (by simp; omega)]
  have : a ≠ b := fun e => h (by rw [e])
  simp [this]
def ke (e : Y0c) : Y09 := ⟨kc e.Key, e.Objects⟩
theorem ke_inj {a b : Y0c} (h : ke a = ke b) : a = b := by
 obtain ⟨k, o⟩ := a
 obtain ⟨k', o'⟩ := b
 unfold ke at h
 simp only [Y09.mk.injEq] at h
 rw [Y9s h.1, h.2]
theorem Y8Q {a b : List Y0c} (h : a.map ke = b.map ke) : a = b := List.map_inj_right (fun _ _ => ke_inj) |>.1 h
theorem same_eq {a b : List Y0c} (hl : a.length ≤ 4611686018427387904) (ho : ∀ e ∈ a, e.Objects.length ≤ 4611686018427387904) : Y0L a (b.map ke) = some (decide (a = b)) := by
 unfold Y0L
 by_cases h : a.length = b.length
 ·rw [if_neg (by simp [h])]
  have key : Y19 (Y0L.l1 a (b.map ke)) 0 = some (if a.map ke = b.map ke then .inl () else .inr false) := by
   refine Y6o ke a (b.map ke) (by simpa using h) (fun k hk => ?_) ?_
   ·have hkb : k < (b.map ke).length := by rw [List.length_map]; omega
    unfold Y0L.l1
    simp only [Y1k hk, if_true, Y1a hk, Y1a hkb, Option.bind_some, Y2h]
    rw [List.getElem_map]
    by_cases hc : kc a[k].Key = kc (b[k]'(by omega)).Key
    ·rw [if_neg (by
      have : (⟨a[k].Key.f_Type, a[k].Key.N, a[k].Key.S⟩ : Y02) = (⟨(ke (b[k]'(by omega))).Key.f_Type, (ke (b[k]'(by omega))).Key.N, (ke (b[k]'(by omega))).Key.S⟩ : Y02) := hc
      rw [decide_eq_true this]; simp), Y7F (ho _ (List.getElem_mem hk)), Option.bind_some]
     unfold Y0L.j2
     by_cases hd : a[k].Objects = (ke (b[k]'(by omega))).Objects
     ·rw [decide_eq_true hd, if_neg (by simp), Y13, Y2G hk (by omega), if_pos]
      show (⟨kc a[k].Key, a[k].Objects⟩ : Y09) = ⟨kc (b[k]'(by omega)).Key, (b[k]'(by omega)).Objects⟩
      rw [hc, show a[k].Objects = (b[k]'(by omega)).Objects from hd]
     ·rw [decide_eq_false hd, if_pos (by simp), if_neg (fun h => hd (congrArg Y09.Objects h))]
    ·rw [if_pos (by
      have : ¬ (⟨a[k].Key.f_Type, a[k].Key.N, a[k].Key.S⟩ : Y02) = (⟨(ke (b[k]'(by omega))).Key.f_Type, (ke (b[k]'(by omega))).Key.N, (ke (b[k]'(by omega))).Key.S⟩ : Y02) := hc
      rw [decide_eq_false this]; simp)]
     unfold Y0L.j2
     rw [if_pos rfl, if_neg (fun h => hc (congrArg Y09.Key h))]
   ·unfold Y0L.l1
    simp only [Y16, Bool.false_eq_true, if_false]
  rw [key, Option.bind_some]
  by_cases he : a = b
  ·rw [if_pos (by rw [he])]; simp [he, Y0L.j1]
  ·rw [if_neg (fun h => he (Y8Q h))]; simp [he]
 ·rw [if_pos (by simp; omega)]
  have : a ≠ b := fun e => h (by rw [e])
  simp [this]
theorem Y9t {P : Y05 → List UInt8 → Prop} {A B : List Y0c} {k : Y05} {n : List UInt8} (h : IsIx P (A ++ B)) (ha : ∀ a ∈ A, Y1W a.Key k) (hb : ∀ b ∈ B, Y1W k b.Key) :
  IsIx (fun k' s => P k' s ∨ (k' = k ∧ s = n)) (A ++ ⟨k, [n]⟩ :: B) := by
 have hs := List.pairwise_append.1 h.srt
 refine ⟨?_, fun e he => ?_, fun e he => ?_, fun k' s => ?_⟩
 ·refine List.pairwise_append.2 ⟨hs.1, List.pairwise_cons.2 ⟨fun b hb' => hb b hb', hs.2.1⟩, fun a ha' b hb' => ?_⟩
  rcases List.mem_cons.1 hb' with rfl | hb'
  ·exact ha a ha'
  ·exact hs.2.2 a ha' b hb'
 ·rcases List.mem_append.1 he with he | he
  ·exact h.asc e (List.mem_append.2 (.inl he))
  ·rcases List.mem_cons.1 he with rfl | he
   ·exact List.pairwise_singleton _ _
   ·exact h.asc e (List.mem_append.2 (.inr he))
 ·rcases List.mem_append.1 he with he | he
  ·exact h.ne e (List.mem_append.2 (.inl he))
  ·rcases List.mem_cons.1 he with rfl | he
   ·simp
   ·exact h.ne e (List.mem_append.2 (.inr he))
 ·constructor
  ·rintro ⟨e, he, hk, hx⟩
   rcases List.mem_append.1 he with he | he
   ·exact .inl ((h.mem _ _).1 ⟨e, List.mem_append.2 (.inl he), hk, hx⟩)
   ·rcases List.mem_cons.1 he with rfl | he
    ·exact .inr ⟨hk.symm, by simpa using hx⟩
    ·exact .inl ((h.mem _ _).1 ⟨e, List.mem_append.2 (.inr he), hk, hx⟩)
  ·rintro (h0 | ⟨rfl, rfl⟩)
   ·obtain ⟨e, he, hk, hx⟩ := (h.mem _ _).2 h0
    rcases List.mem_append.1 he with he | he
    ·exact ⟨e, List.mem_append.2 (.inl he), hk, hx⟩
    ·exact ⟨e, List.mem_append.2 (.inr (List.mem_cons_of_mem _ he)), hk, hx⟩
   ·exact ⟨⟨k', [s]⟩, by simp, rfl, by simp⟩
theorem Y9u {P : Y05 → List UInt8 → Prop} {A B : List Y0c} {k : Y05} {o : List (List UInt8)} {n : List UInt8} (h : IsIx P (A ++ ⟨k, o⟩ :: B)) (hn : ∀ s, P k s → Op.bytesLess s n = true) :
  IsIx (fun k' s => P k' s ∨ (k' = k ∧ s = n)) (A ++ ⟨k, o ++ [n]⟩ :: B) := by
 have hs := List.pairwise_append.1 h.srt
 have hc := List.pairwise_cons.1 hs.2.1
 have hm : (⟨k, o⟩ : Y0c) ∈ A ++ ⟨k, o⟩ :: B := by simp
 refine ⟨?_, fun e he => ?_, fun e he => ?_, fun k' s => ?_⟩
 ·refine List.pairwise_append.2 ⟨hs.1, List.pairwise_cons.2 ⟨fun b hb' => hc.1 b hb', hc.2⟩, fun a ha' b hb' => ?_⟩
  rcases List.mem_cons.1 hb' with rfl | hb'
  ·exact hs.2.2 a ha' ⟨k, o⟩ (by simp)
  ·exact hs.2.2 a ha' b (by simp [hb'])
 ·rcases List.mem_append.1 he with he | he
  ·exact h.asc e (List.mem_append.2 (.inl he))
  ·rcases List.mem_cons.1 he with rfl | he
   ·refine List.pairwise_append.2 ⟨h.asc _ hm, List.pairwise_singleton _ _, fun a ha b hb => ?_⟩
    have : b = n := by simpa using hb
    rw [this]
    exact hn a ((h.obj hm a).1 ha)
   ·exact h.asc e (List.mem_append.2 (.inr (List.mem_cons_of_mem _ he)))
 ·rcases List.mem_append.1 he with he | he
  ·exact h.ne e (List.mem_append.2 (.inl he))
  ·rcases List.mem_cons.1 he with rfl | he
   ·simp
   ·exact h.ne e (List.mem_append.2 (.inr (List.mem_cons_of_mem _ he)))
 ·constructor
  ·rintro ⟨e, he, hk, hx⟩
   rcases List.mem_append.1 he with he | he
   ·exact .inl ((h.mem _ _).1 ⟨e, List.mem_append.2 (.inl he), hk, hx⟩)
   ·rcases List.mem_cons.1 he with rfl | he
    ·rcases List.mem_append.1 hx with hx | hx
     ·exact .inl ((h.mem _ _).1 ⟨_, hm, hk, hx⟩)
     ·exact .inr ⟨hk.symm, by simpa using hx⟩
    ·exact .inl ((h.mem _ _).1 ⟨e, List.mem_append.2 (.inr (List.mem_cons_of_mem _ he)), hk, hx⟩)
  ·rintro (h0 | ⟨rfl, rfl⟩)
   ·obtain ⟨e, he, hk, hx⟩ := (h.mem _ _).2 h0
    rcases List.mem_append.1 he with he | he
    ·exact ⟨e, List.mem_append.2 (.inl he), hk, hx⟩
    ·rcases List.mem_cons.1 he with rfl | he
     ·exact ⟨_, List.mem_append.2 (.inr (List.mem_cons_self ..)), hk, List.mem_append.2 (.inl hx)⟩
     ·exact ⟨e, List.mem_append.2 (.inr (List.mem_cons_of_mem _ he)), hk, hx⟩
   ·exact ⟨⟨k', o ++ [s]⟩, by simp, rfl, by simp⟩
theorem cpy_set {α : Type} {xs : List α} {z v : α} {p : Nat} (hp : p ≤ xs.length) : (cpyN (xs ++ [z]) (p + 1) p).set p v = xs.take p ++ v :: xs.drop p := by
 have e0 : (xs ++ [z]).length = xs.length + 1 := by simp
 have e1 : cpyN (xs ++ [z]) (p + 1) p = (xs ++ [z]).take (p + 1) ++ xs.drop p := by
  unfold cpyN
  rw [e0, show Nat.min (xs.length + 1 - p) (xs.length + 1 - (p + 1)) = xs.length - p by
   show min (xs.length + 1 - p) (xs.length + 1 - (p + 1)) = _
   omega]
  rw [List.drop_eq_nil_of_le (show (xs ++ [z]).length ≤ p + 1 + (xs.length - p) by omega), List.append_nil]
  have e3 : (xs.drop p ++ [z]).take (xs.length - p) = xs.drop p := List.take_left' (by rw [List.length_drop])
  rw [List.drop_append_of_le_length hp, e3]
 rw [e1, List.set_append_left _ _ (by rw [List.length_take]; omega)]
 have e2 : (xs ++ [z]).take (p + 1) = xs.take p ++ [(xs ++ [z])[p]'(by omega)] := by
  rw [Y1i (by omega), List.take_append_of_le_length hp]
 rw [e2, List.set_append_right _ _ (by rw [List.length_take]; omega)]
 rw [show p - (xs.take p).length = 0 by rw [List.length_take]; omega]
 simp
end
section
open Go Go.Proofs.YtpfgdjfiimknlaaGreatL
theorem split_at {α : Type} {xs : List α} {p : Nat} (hp : p < xs.length) : xs = xs.take p ++ xs[p] :: xs.drop (p + 1) := by
 rw [← List.drop_eq_getElem_cons hp, List.take_append_drop]
theorem find_key {es : List Y0c} {ks : List Y05} {q : Nat} (hq : q < ks.length) (hl : es.length ≤ 1000000) :
  ∃ b : Int, Y19 (Y0f.l1 (ks.map kc) (es.map ke) (q : Int)) 0 = some b ∧ ∃ p : Nat, b = (p : Int) ∧ p ≤ es.length ∧ (∀ i, (h : i < p) → (h2 : i < es.length) → Y1W es[i].Key ks[q]) ∧ ∀ h : p < es.length, ¬ Y1W es[p].Key ks[q] := by
 have hqm : q < (ks.map kc).length := by rw [List.length_map]; exact hq
 refine Y8h (fun n s => s = (n : Int) ∧ n ≤ es.length ∧ ∀ i, (h : i < n) → (h2 : i < es.length) → Y1W es[i].Key ks[q]) es.length ⟨rfl, Nat.zero_le _, fun i h => absurd h (by omega)⟩ ?_ ?_
 ·rintro n s hn ⟨rfl, _, h⟩
  have hnm : n < (es.map ke).length := by rw [List.length_map]; exact hn
  unfold Y0f.l1
  simp only [Y1k hnm, if_true, Y1a hnm, Y1a hqm, Option.bind_some]
  rw [List.getElem_map, List.getElem_map]
  rw [show (ke es[n]).Key = kc es[n].Key from rfl, Y7H, Option.bind_some]
  unfold Y0f.j7
  by_cases hc : Y1W es[n].Key ks[q]
  ·rw [if_pos (by rw [decide_eq_true_eq, Y2n]; exact hc), Y13, Y2G hn (by omega)]
   refine .inl ⟨_, rfl, rfl, hn, fun i hi h2 => ?_⟩
   by_cases he : i = n
   ·subst he; exact hc
   ·exact h i (by omega) h2
  ·rw [if_neg (by rw [decide_eq_true_eq, Y2n]; exact hc)]
   exact .inr ⟨_, rfl, n, rfl, by omega, h, fun _ => hc⟩
 ·rintro s ⟨rfl, _, h⟩
  have e0 : (es.map ke).length = es.length := List.length_map _
  unfold Y0f.l1 Y0f.j7
  rw [e0]
  simp only [Y16, Bool.false_eq_true, if_false]
  exact ⟨_, rfl, es.length, rfl, Nat.le_refl _, h, fun h => absurd h (Nat.lt_irrefl _)⟩
theorem put_key {P : Y05 → List UInt8 → Prop} {objs : List Y06} {i : Nat} (hi : i < objs.length) {ks : List Y05} {q : Nat} (hq : q < ks.length) (hks : ks.length ≤ 1000) {B : Nat} (hB : B + q ≤ 100000) {es : List Y0c}
  (hx : IsIx P es) (h1 : es.length ≤ B + q) (h2 : ∀ e ∈ es, e.Objects.length ≤ B + q) (hn : ∀ s, P ks[q] s → Op.bytesLess s objs[i].Name = true) :
  ∃ s', Y0f.l2 ⟨objs⟩ (i : Int) (ks.map kc) (es.map ke, (q : Int)) = some (.inl s') ∧ ∃ es' : List Y0c, s' = (es'.map ke, ((q + 1 : Nat) : Int)) ∧ IsIx (fun k s => P k s ∨ (k = ks[q] ∧ s = objs[i].Name)) es' ∧ es'.length ≤ B + (q + 1) ∧ ∀ e ∈ es', e.Objects.length ≤ B + (q + 1) := by
 have hqm : q < (ks.map kc).length := by rw [List.length_map]; exact hq
 have ekq : (ks.map kc)[q] = kc ks[q] := List.getElem_map _
 obtain ⟨_, f1, p, rfl, f2, f3, f4⟩ := find_key hq (es := es) (by omega)
 unfold Y0f.l2
 simp only [Y1k hqm, if_true]
 rw [f1, Option.bind_some]
 have j4 : ∀ (es' : List Y0c) (hp : p < es'.length), es'[p].Objects.length ≤ B + q → Y0f.j4 ⟨objs⟩ (i : Int) (q : Int) (p : Int) (es'.map ke) = some (.inl ((es'.set p ⟨es'[p].Key, es'[p].Objects ++ [objs[i].Name]⟩).map ke, ((q + 1 : Nat) : Int))) := by
  intro es' hp ho
  have hpm : p < (es'.map ke).length := by rw [List.length_map]; exact hp
  unfold Y0f.j4
  rw [Y1a hpm, Option.bind_some, List.getElem_map, show (ke es'[p]).Objects = es'[p].Objects from rfl, Y2L (by rw [List.length_nil]; omega), Option.bind_some, Y1a (show i < (⟨objs⟩ : Y0y).Objects.length from hi), Option.bind_some, List.nil_append, Y2L (by rw [List.length_singleton]; omega), Option.bind_some, Option.bind_some]
  unfold Y0f.j3
  rw [Y13, Y13, Y2G hq (by omega), Int.toNat_natCast, List.map_set]
  rfl
 have j5f : ∀ hp : p < es.length, es[p].Key = ks[q] → ∃ s', Y0f.j5 ⟨objs⟩ (i : Int) (ks.map kc) (es.map ke) (q : Int) (p : Int) false = some (.inl s') ∧ ∃ es' : List Y0c, s' = (es'.map ke, ((q + 1 : Nat) : Int)) ∧ IsIx (fun k s => P k s ∨ (k = ks[q] ∧ s = objs[i].Name)) es' ∧ es'.length ≤ B + (q + 1) ∧ ∀ e ∈ es', e.Objects.length ≤ B + (q + 1) := by
  intro hp hk
  unfold Y0f.j5
  rw [if_neg (by simp), j4 es hp (h2 _ (List.getElem_mem hp))]
  refine ⟨_, rfl, _, rfl, ?_, by rw [List.length_set]; omega, fun e he => ?_⟩
  ·have e1 : es.set p ⟨es[p].Key, es[p].Objects ++ [objs[i].Name]⟩ = es.take p ++ ⟨es[p].Key, es[p].Objects ++ [objs[i].Name]⟩ :: es.drop (p + 1) := by
    rw [List.set_eq_take_append_cons_drop, if_pos hp]
   rw [e1, hk]
   refine Y9u (o := es[p].Objects) ?_ hn
   have e2 : (⟨ks[q], es[p].Objects⟩ : Y0c) = es[p] := by rw [← hk]
   rw [e2, ← split_at hp]
   exact hx
  ·rcases List.mem_or_eq_of_mem_set he with he | rfl
   ·have := h2 e he; omega
   ·have := h2 _ (List.getElem_mem hp)
    rw [List.length_append, List.length_singleton]
    omega
 have j5t : (∀ hp : p < es.length, es[p].Key ≠ ks[q]) → ∃ s', Y0f.j5 ⟨objs⟩ (i : Int) (ks.map kc) (es.map ke) (q : Int) (p : Int) true = some (.inl s') ∧ ∃ es' : List Y0c, s' = (es'.map ke, ((q + 1 : Nat) : Int)) ∧ IsIx (fun k s => P k s ∨ (k = ks[q] ∧ s = objs[i].Name)) es' ∧ es'.length ≤ B + (q + 1) ∧ ∀ e ∈ es', e.Objects.length ≤ B + (q + 1) := by
  intro hne
  unfold Y0f.j5
  have em : es.map ke ++ [(⟨(⟨0, 0, []⟩ : Y02), []⟩ : Y09)] = (es ++ [(⟨⟨0, 0, []⟩, []⟩ : Y0c)]).map ke := by rw [List.map_append]; rfl
  rw [if_pos rfl, Y2L (by rw [List.length_map, List.length_singleton]; omega), Option.bind_some, em, Y13, w64n (by omega)]
  have el : ((es ++ [(⟨⟨0, 0, []⟩, []⟩ : Y0c)]).map ke).length = es.length + 1 := by simp
  rw [if_pos (by rw [el]; omega), if_pos (by rw [el]; omega), Y13, Y1a hqm, Option.bind_some, Int.toNat_natCast, Int.toNat_natCast]
  have hcl := Y64 ((es ++ [(⟨⟨0, 0, []⟩, []⟩ : Y0c)]).map ke) (p + 1) p (by rw [el]; omega) (by rw [el]; omega)
  rw [Y1a (by rw [hcl, el]; omega), Option.bind_some, Y13, ekq]
  have e3 : ((cpyN ((es ++ [(⟨⟨0, 0, []⟩, []⟩ : Y0c)]).map ke) (p + 1) p).set p (⟨kc ks[q], []⟩ : Y09)) = (es.take p ++ (⟨ks[q], []⟩ : Y0c) :: es.drop p).map ke := by
   rw [← em, cpy_set (by rw [List.length_map]; exact f2), List.map_append, List.map_cons, List.map_take, List.map_drop]
   rfl
  rw [e3]
  have hlt : (es.take p).length = p := by rw [List.length_take]; omega
  have hpe : p < (es.take p ++ (⟨ks[q], []⟩ : Y0c) :: es.drop p).length := by rw [List.length_append, List.length_cons, hlt]; omega
  have hge : (es.take p ++ (⟨ks[q], []⟩ : Y0c) :: es.drop p)[p] = ⟨ks[q], []⟩ := by
   rw [List.getElem_append_right (by omega)]
   simp [hlt]
  rw [j4 _ hpe (by rw [hge]; exact Nat.zero_le _), hge]
  have e4 : (es.take p ++ (⟨ks[q], []⟩ : Y0c) :: es.drop p).set p ⟨(⟨ks[q], []⟩ : Y0c).Key, (⟨ks[q], []⟩ : Y0c).Objects ++ [objs[i].Name]⟩ = es.take p ++ ⟨ks[q], [objs[i].Name]⟩ :: es.drop p := by
   rw [List.set_append_right _ _ (by omega), hlt, Nat.sub_self]
   rfl
  rw [e4]
  refine ⟨_, rfl, _, rfl, ?_, by rw [List.length_append, List.length_cons, hlt, List.length_drop]; omega, fun e he => ?_⟩
  ·refine Y9t (by rw [List.take_append_drop]; exact hx) (fun a ha => ?_) (fun b hb => ?_)
   ·obtain ⟨r, hr, rfl⟩ := List.getElem_of_mem ha
    rw [List.length_take] at hr
    rw [List.getElem_take]
    exact f3 r (by omega) (by omega)
   ·obtain ⟨r, hr, rfl⟩ := List.getElem_of_mem hb
    rw [List.length_drop] at hr
    rw [List.getElem_drop]
    have hp : p < es.length := by omega
    have c1 : Y1W ks[q] es[p].Key := by
     refine Classical.byContradiction fun hc => hne hp (Y5R (f4 hp) hc)
    by_cases hr0 : r = 0
    ·subst hr0; exact c1
    ·exact Y3q c1 (List.pairwise_iff_getElem.1 hx.srt p (p + r) hp (by omega) (by omega))
  ·rcases List.mem_append.1 he with he | he
   ·have := h2 e (List.mem_of_mem_take he); omega
   ·rcases List.mem_cons.1 he with rfl | he
    ·simp; omega
    ·have := h2 e (List.mem_of_mem_drop he); omega
 unfold Y0f.j6
 have el : (es.map ke).length = es.length := List.length_map _
 by_cases hp : p = es.length
 ·rw [if_pos (by rw [el]; simp [hp])]
  exact j5t fun h => absurd h (by omega)
 ·have hp : p < es.length := by omega
  rw [if_neg (by rw [el]; simp; omega), Y1a (show p < (es.map ke).length by omega), Option.bind_some, Y1a hqm, Option.bind_some, List.getElem_map, ekq]
  by_cases hk : es[p].Key = ks[q]
  ·have e5 : (⟨(ke es[p]).Key.f_Type, (ke es[p]).Key.N, (ke es[p]).Key.S⟩ : Y02) = (⟨(kc ks[q]).f_Type, (kc ks[q]).N, (kc ks[q]).S⟩ : Y02) := by
    show kc es[p].Key = kc ks[q]
    rw [hk]
   rw [decide_eq_true e5]
   exact j5f hp hk
  ·have e5 : ¬ (⟨(ke es[p]).Key.f_Type, (ke es[p]).Key.N, (ke es[p]).Key.S⟩ : Y02) = (⟨(kc ks[q]).f_Type, (kc ks[q]).N, (kc ks[q]).S⟩ : Y02) := fun h => hk (Y9s h)
   rw [decide_eq_false e5]
   exact j5t fun _ => hk
theorem Y70 (f : Y0l) {objs : List Y06} (h : ∀ o ∈ objs, GO o) (hs : SA ON_ objs) (hl : objs.length ≤ 100) : ∃ es, Y0f f ⟨objs⟩ = some (es.map ke) ∧ IsIx (PB f objs) es := by
 unfold Y0f
 have key : ∃ b : List Y09, Y19 (Y0f.l3 f ⟨objs⟩) ([], 0) = some b ∧ ∃ es, b = es.map ke ∧ IsIx (PB f objs) es := by
  refine Y2B (fun n s => ∃ es, s = (es.map ke, (n : Int)) ∧ IsIx (PB f (objs.take n)) es ∧ es.length ≤ 100 * n ∧ ∀ e ∈ es, e.Objects.length ≤ 100 * n) objs.length ?_ ?_ ?_
  ·exact ⟨[], rfl, ⟨.nil, by simp, by simp, fun k s => by simp [PB]⟩, by simp, by simp⟩
  ·rintro n s hn ⟨es, rfl, hx, h1, h2⟩
   have hg := h _ (List.getElem_mem hn)
   have hkl := Y3h (f := f) hg
   have hksrt := Y6l (f := f) hg
   unfold Y0f.l3
   simp only [Y1k hn, if_true]
   rw [Y1a (show n < (⟨objs⟩ : Y0y).Objects.length from hn), Option.bind_some, rKeys_eq hg, Option.bind_some]
   have inner : ∃ b : List Y09, Y19 (Y0f.l2 ⟨objs⟩ (n : Int) ((Y2p f objs[n]).map kc)) (es.map ke, 0) = some b ∧ ∃ es', b = es'.map ke ∧ IsIx (fun k s => PB f (objs.take n) k s ∨ (s = objs[n].Name ∧ k ∈ Y2p f objs[n])) es' ∧ es'.length ≤ 100 * n + 100 ∧ ∀ e ∈ es', e.Objects.length ≤ 100 * n + 100 := by
    refine Y2B (fun q s => ∃ es', s = (es'.map ke, (q : Int)) ∧ IsIx (fun k s => PB f (objs.take n) k s ∨ (s = objs[n].Name ∧ k ∈ (Y2p f objs[n]).take q)) es' ∧ es'.length ≤ 100 * n + q ∧ ∀ e ∈ es', e.Objects.length ≤ 100 * n + q) (Y2p f objs[n]).length ?_ ?_ ?_
    ·exact ⟨es, rfl, hx.congr fun k s => by simp, by omega, fun e he => by have := h2 e he; omega⟩
    ·rintro q s hq ⟨es', rfl, hx', h1', h2'⟩
     obtain ⟨s', g1, es'', g2, g3, g4, g5⟩ := put_key (objs := objs) hn hq (by omega) (B := 100 * n) (by omega) hx' h1' h2' (by
      intro s hs'
      rcases hs' with ⟨o, ho, rfl, _⟩ | ⟨_, hm⟩
      ·obtain ⟨r, hr, rfl⟩ := List.getElem_of_mem ho
       rw [List.length_take] at hr
       rw [List.getElem_take]
       exact List.pairwise_iff_getElem.1 hs r n (by omega) hn (by omega)
      ·obtain ⟨r, hr, he⟩ := List.getElem_of_mem hm
       rw [List.length_take] at hr
       rw [List.getElem_take] at he
       have := List.pairwise_iff_getElem.1 hksrt r q (by omega) hq (by omega)
       rw [he] at this
       exact absurd this (Y2C _))
     refine ⟨s', g1, es'', g2, g3.congr fun k s => ?_, g4, g5⟩
     rw [Y1i hq, List.mem_append, List.mem_singleton]
     constructor
     ·rintro ((h | ⟨a, b⟩) | ⟨a, b⟩)
      ·exact .inl h
      ·exact .inr ⟨a, .inl b⟩
      ·exact .inr ⟨b, .inr a⟩
     ·rintro (h | ⟨a, b | b⟩)
      ·exact .inl (.inl h)
      ·exact .inl (.inr ⟨a, b⟩)
      ·exact .inr ⟨b, a⟩
    ·rintro s ⟨es', rfl, hx', h1', h2'⟩
     have e0 : ((Y2p f objs[n]).map kc).length = (Y2p f objs[n]).length := List.length_map _
     unfold Y0f.l2
     simp only
     rw [e0]
     simp only [Y16, Bool.false_eq_true, if_false]
     refine ⟨_, rfl, es', rfl, ?_, by omega, fun e he => by have := h2' e he; omega⟩
     rw [List.take_length] at hx'
     exact hx'
   obtain ⟨b, b1, es', rfl, b3, b4, b5⟩ := inner
   rw [b1, Option.bind_some]
   unfold Y0f.j2
   rw [Y13, Y2G hn (by omega)]
   refine ⟨_, rfl, es', rfl, b3.congr fun k s => ?_, by omega, fun e he => by have := b5 e he; omega⟩
   rw [Y1i hn]
   unfold PB
   constructor
   ·rintro (⟨o, ho, a, b⟩ | ⟨a, b⟩)
    ·exact ⟨o, List.mem_append.2 (.inl ho), a, b⟩
    ·exact ⟨objs[n], List.mem_append.2 (.inr (by simp)), a.symm, b⟩
   ·rintro ⟨o, ho, a, b⟩
    rcases List.mem_append.1 ho with ho | ho
    ·exact .inl ⟨o, ho, a, b⟩
    ·have : o = objs[n] := by simpa using ho
     rw [this] at a b
     exact .inr ⟨a.symm, b⟩
  ·rintro s ⟨es, rfl, hx, _, _⟩
   unfold Y0f.l3
   simp only [Y16, Bool.false_eq_true, if_false]
   rw [List.take_length] at hx
   exact ⟨_, rfl, es, rfl, hx⟩
 obtain ⟨b, b1, es, b2, b3⟩ := key
 rw [b1, Option.bind_some]
 exact ⟨es, by rw [b2]; rfl, b3⟩
end
section
open Go Go.Proofs.YtpfgdjfiimknlaaGreatL
theorem Y5B (n k : Int) (h1 : 1 ≤ k) (h2 : k ≤ 4611686018427387904) : ∃ d, Y1B n k = some d ∧ 0 ≤ d ∧ d < k := by
 unfold Y1B
 rw [if_neg (by simp; omega), if_pos (by omega)]
 have e1 : Int.tmod n k < k := Int.tmod_lt_of_pos _ (by omega)
 have e2 : -k < Int.tmod n k := by
  have : Int.tmod (-n) k < k := Int.tmod_lt_of_pos _ (by omega)
  rw [Int.neg_tmod] at this
  omega
 simp only [Y13]
 rw [w64 (by omega) (by omega), if_pos (by omega)]
 exact ⟨_, rfl, Int.tmod_nonneg _ (by omega), Int.tmod_lt_of_pos _ (by omega)⟩
theorem Y2w (n b : Int) (i : Nat) (h1 : 2 ≤ b) (h2 : b ≤ 16) (hi : i ≤ 100000) : ∃ d, Y0k n b (i : Int) = some d ∧ 0 ≤ d ∧ d < b := by
 obtain ⟨x, hx, hx0, hx1⟩ := Y5B n 1099511627776 (by decide) (by decide)
 unfold Y0k
 rw [hx]
 simp only [Option.bind_some]
 have key : ∃ r, Y19 (Y0k.l1 b (i : Int)) (x, 0) = some r ∧ 0 ≤ r := by
  refine Y2B (fun k s => ∃ y : Int, s = (y, (k : Int)) ∧ 0 ≤ y ∧ y < 1099511627776) i ⟨x, rfl, hx0, hx1⟩ (fun k s hk hI => ?_) (fun s hI => ?_)
  ·obtain ⟨y, rfl, h3, h4⟩ := hI
   simp only [Y0k.l1]
   rw [if_pos (by simpa using hk), if_pos (by omega)]
   have h5 : 0 ≤ Int.tdiv y b := Int.tdiv_nonneg h3 (by omega)
   have h6 : Int.tdiv y b ≤ y := by
    rw [Int.tdiv_eq_ediv_of_nonneg h3]
    exact Int.ediv_le_self _ h3
   simp only [Y13]
   rw [w64 (x := Int.tdiv y b) (by omega) (by omega), Y2G hk (by omega)]
   exact ⟨_, rfl, _, rfl, h5, by omega⟩
  ·obtain ⟨y, rfl, h3, h4⟩ := hI
   simp only [Y0k.l1]
   rw [if_neg (by simp)]
   exact ⟨_, rfl, h3⟩
 obtain ⟨r, hr, hr0⟩ := key
 rw [hr]
 simp only [Option.bind_some, Y0k.j1]
 rw [if_pos (by omega)]
 exact ⟨_, rfl, Int.tmod_nonneg _ hr0, Int.tmod_lt_of_pos _ (by omega)⟩
theorem Y7J (d : Int) : ∃ s, Y1O d = some s ∧ s.length ≤ 2 ∧ s ≠ [] := by
 unfold Y1O
 obtain ⟨x, hx, h0, h1⟩ := Y5B d 4 (by decide) (by decide)
 rw [hx, Option.bind_some]
 have : x = 0 ∨ x = 1 ∨ x = 2 ∨ x = 3 := by omega
 rcases this with rfl | rfl | rfl | rfl
 ·exact ⟨[97], rfl, by decide, by decide⟩
 ·exact ⟨[98], rfl, by decide, by decide⟩
 ·exact ⟨[99], rfl, by decide, by decide⟩
 ·exact ⟨[120, 49], rfl, by decide, by decide⟩
end
section
open Go Go.Proofs.YtpfgdjfiimknlaaGreatL
theorem Y7y (n : Int) (b : Bool) : ∃ e, Y17 n b = some e ∧ EF e ∧ (b = false → e.Kind ≠ 1) := by
 unfold Y17
 obtain ⟨d1, e1, _⟩ := Y2w n 4 1 (by decide) (by decide) (by decide)
 obtain ⟨s1, f1, l1, _⟩ := Y7J d1
 obtain ⟨d2, e2, _⟩ := Y2w n 4 2 (by decide) (by decide) (by decide)
 obtain ⟨s2, f2, l2, _⟩ := Y7J d2
 obtain ⟨d3, e3, _⟩ := Y2w n 16 3 (by decide) (by decide) (by decide)
 obtain ⟨d5, e5, _⟩ := Y2w n 4 5 (by decide) (by decide) (by decide)
 obtain ⟨s5, f5, l5, _⟩ := Y7J d5
 obtain ⟨d0, e0, _⟩ := Y2w n 4 0 (by decide) (by decide) (by decide)
 have e1 : Y0k n 4 1 = some d1 := e1
 have e2 : Y0k n 4 2 = some d2 := e2
 have e3 : Y0k n 16 3 = some d3 := e3
 have e5 : Y0k n 4 5 = some d5 := e5
 have e0 : Y0k n 4 0 = some d0 := e0
 simp only [e1, f1, e2, f2, e3, e5, f5, e0, Option.bind_some, Y13, Y17.j1]
 have m1 : s1.length ≤ 1000 := by omega
 have m2 : s2.length ≤ 1000 := by omega
 have m5 : s5.length ≤ 1000 := by omega
 cases b with
 | true => exact ⟨_, rfl, ⟨m1, m2, m5⟩, by simp⟩
 | false =>
  simp only [Bool.false_eq_true, if_false]
  split
  ·exact ⟨_, rfl, ⟨m1, m2, by simp⟩, by simp⟩
  ·split
   ·exact ⟨_, rfl, ⟨m1, m2, by simp⟩, by simp⟩
   ·split
    ·exact ⟨_, rfl, ⟨m1, m2, m5⟩, by simp⟩
    ·exact ⟨_, rfl, ⟨m1, m2, by simp⟩, by simp⟩
structure UOK (u : Y0j) : Prop where
 len : u.Effects.length ≤ 4
 ef : ∀ e ∈ u.Effects, EF e
 one : u.Effects.length ≤ 1 ∨ ∀ e ∈ u.Effects, e.Kind ≠ 1
theorem Y9L (c s n : Int) : ∃ u, Y1f c s n = some u ∧ u.Client = c ∧ u.Seq = s ∧ UOK u := by
 unfold Y1f
 obtain ⟨d8, e8, _⟩ := Y2w n 3 8 (by decide) (by decide) (by decide)
 obtain ⟨d4, e4, _⟩ := Y2w n 16 4 (by decide) (by decide) (by decide)
 obtain ⟨ef, hef, hE, _⟩ := Y7y n true
 have e8 : Y0k n 3 8 = some d8 := e8
 have e4 : Y0k n 16 4 = some d4 := e4
 simp only [e8, Option.bind_some]
 split
 ·simp only [e4, hef, Option.bind_some]
  refine ⟨_, rfl, rfl, rfl, ⟨by simp, fun e he => ?_, .inl (by simp)⟩⟩
  simp at he
  subst he
  exact hE
 ·obtain ⟨d9, e9, h90, h91⟩ := Y2w n 3 9 (by decide) (by decide) (by decide)
  have e9 : Y0k n 3 9 = some d9 := e9
  have key : ∃ l, Y19 (Y1f.l1 n) (0, []) = some l ∧ (l.length ≤ 4 ∧ ∀ e ∈ l, EF e ∧ e.Kind ≠ 1) := by
   refine Y8g (fun s : Int × List Y0D => 0 ≤ s.1 ∧ s.1 ≤ 3 ∧ s.2.length ≤ s.1.toNat ∧ ∀ e ∈ s.2, EF e ∧ e.Kind ≠ 1) (fun s => (4 - s.1).toNat) ⟨by decide, by decide, by simp, by simp⟩ ?_
   rintro ⟨i, l⟩ ⟨h0, h1, h2, h3⟩
   simp only at h0 h1 h2 h3
   unfold Y1f.l1
   simp only [e9, Option.bind_some]
   by_cases hc : i ≤ d9
   ·rw [if_pos (by simpa using hc)]
    obtain ⟨x, hx, hx0, hx1⟩ := Y5B n 1099511627776 (by decide) (by decide)
    simp only [hx, Option.bind_some, Y13]
    rw [w64 (x := i + 1) (by omega) (by omega), if_pos (by omega)]
    obtain ⟨e, he, hE, hk⟩ := Y7y (IntKind.i64.wrap (Int.tdiv x (i + 1))) false
    rw [he, Option.bind_some, Y2L (by simp only [List.length_singleton]; omega), Option.bind_some]
    refine .inl ⟨_, rfl, ⟨by omega, by omega, ?_, fun q hq => ?_⟩, by simp only; omega⟩
    ·simp only [List.length_append, List.length_singleton]; omega
    ·rcases List.mem_append.1 hq with hq | hq
     ·exact h3 q hq
     ·simp at hq; subst hq; exact ⟨hE, hk rfl⟩
   ·rw [if_neg (by simpa using hc)]
    exact .inr ⟨l, rfl, by omega, h3⟩
  obtain ⟨l, hl, h1, h2⟩ := key
  rw [hl, Option.bind_some]
  exact ⟨_, rfl, rfl, rfl, ⟨h1, fun e he => (h2 e he).1, .inr fun e he => (h2 e he).2⟩⟩
def ult (a b : Y0j) : Prop := a.Client < b.Client ∨ a.Client = b.Client ∧ a.Seq < b.Seq
structure US (c q : Int) (s : List Y0j) : Prop where
 ok : ∀ u ∈ s, UOK u
 cl : ∀ u ∈ s, 101 ≤ u.Client ∧ (u.Client < 101 + c ∨ u.Client = 101 + c ∧ u.Seq ≤ q)
 sq : ∀ u ∈ s, 1 ≤ u.Seq ∧ u.Seq ≤ 8
 asc : s.Pairwise ult
 len : (s.length : Int) ≤ 8 * c + q
theorem Y6q (l : List Int) : ∃ s, Y0o l = some s ∧ US 3 0 s := by
 unfold Y0o
 have key : ∃ s, Y19 (Y0o.l2 l) ([], 0) = some s ∧ US 3 0 s := by
  refine Y2B (I := fun k s => s.2 = (k : Int) ∧ US (k : Int) 0 s.1) 3 ⟨rfl, ⟨by simp, by simp, by simp, List.Pairwise.nil, by simp⟩⟩ ?_ ?_
  ·rintro k ⟨s, c⟩ hk ⟨hc, hU⟩
   simp only at hc hU
   subst hc
   unfold Y0o.l2
   simp only
   rw [if_pos (by rw [decide_eq_true_eq]; omega)]
   have inner : ∃ s', Y19 (Y0o.l1 l (k : Int)) (s, 0, 0) = some s' ∧ US ((k : Int) + 1) 0 s' := by
    refine Y8g (fun t : List Y0j × Int × Int => 0 ≤ t.2.2 ∧ t.2.2 ≤ 24 ∧ 0 ≤ t.2.1 ∧ t.2.1 ≤ 8 ∧ US (k : Int) t.2.1 t.1) (fun t => (25 - t.2.2).toNat) ⟨Int.le_refl 0, (by decide : (0 : Int) ≤ 24), Int.le_refl 0, (by decide : (0 : Int) ≤ 8), hU⟩ ?_
    rintro ⟨s, q, i⟩ ⟨h0, h1, h2, h3, hU⟩
    simp only at h0 h1 h2 h3 hU
    have stop : US ((k : Int) + 1) 0 s := ⟨hU.ok, fun u hu => ⟨(hU.cl u hu).1, .inl (by rcases (hU.cl u hu).2 with h | h <;> omega)⟩, hU.sq, hU.asc, by have := hU.len; omega⟩
    unfold Y0o.l1
    simp only
    have next : ∀ (s' : List Y0j) (q' : Int), 0 ≤ q' → q' ≤ 8 → US (k : Int) q' s' → i < 24 → (∃ t, Y0o.j3 i s' q' = some (.inl t) ∧ (0 ≤ t.2.2 ∧ t.2.2 ≤ 24 ∧ 0 ≤ t.2.1 ∧ t.2.1 ≤ 8 ∧ US (k : Int) t.2.1 t.1) ∧ (25 - t.2.2).toNat < (25 - i).toNat) := by
     intro s' q' hq0 hq1 hU' hi
     unfold Y0o.j3
     rw [Y13, w64 (x := i + 1) (by omega) (by omega)]
     exact ⟨_, rfl, ⟨by simp only; omega, by simp only; omega, hq0, hq1, hU'⟩, by simp only; omega⟩
    by_cases hi1 : i < (l.length : Int)
    ·rw [if_pos (by simpa using hi1)]
     by_cases hi2 : i < 24
     ·rw [show decide (i < 24) = true by simpa using hi2]
      unfold Y0o.j5
      rw [if_pos rfl]
      obtain ⟨j, rfl⟩ : ∃ j : Nat, i = j := ⟨i.toNat, by omega⟩
      have hj : j < l.length := by omega
      rw [Y1a hj, Option.bind_some]
      obtain ⟨d, hd, hd0, hd1⟩ := Y2w l[j] 3 0 (by decide) (by decide) (by decide)
      have hd : Y0k l[j] 3 0 = some d := hd
      rw [hd, Option.bind_some]
      have skip := next s q h2 h3 hU hi2
      have j4f : Y0o.j4 l (k : Int) s q (j : Int) false = Y0o.j3 (j : Int) s q := by
       unfold Y0o.j4
       rw [if_neg (by simp)]
      split
      ·by_cases hq : q < 8
       ·rw [show decide (q < 8) = true by simpa using hq]
        unfold Y0o.j4
        rw [if_pos rfl, Y13, Y13, Y1a hj, Option.bind_some]
        obtain ⟨x, hx, hx0, hx1⟩ := Y5B l[j] 1099511627776 (by decide) (by decide)
        rw [hx, Option.bind_some, Y13]
        rw [w64 (x := 101 + (k : Int)) (by omega) (by omega), w64 (x := q + 1) (by omega) (by omega)]
        obtain ⟨u, hu, huc, hus, hok⟩ := Y9L (101 + (k : Int)) (q + 1) (IntKind.i64.wrap (Int.tdiv x 3))
        have hlen := hU.len
        rw [hu, Option.bind_some, Y2L (by simp only [List.length_singleton]; omega), Option.bind_some]
        refine .inl (next _ (q + 1) (by omega) (by omega) ?_ hi2)
        have eu : (⟨u.Client, u.Seq, u.Tag, u.Effects⟩ : Y0j) = u := rfl
        rw [eu]
        refine ⟨fun v hv => ?_, fun v hv => ?_, fun v hv => ?_, ?_, by simp only [List.length_append, List.length_singleton]; omega⟩
        ·rcases List.mem_append.1 hv with hv | hv
         ·exact hU.ok v hv
         ·simp at hv; subst hv; exact hok
        ·rcases List.mem_append.1 hv with hv | hv
         ·obtain ⟨a, b⟩ := hU.cl v hv
          exact ⟨a, by rcases b with b | b <;> omega⟩
         ·simp at hv; subst hv; rw [huc, hus]; omega
        ·rcases List.mem_append.1 hv with hv | hv
         ·exact hU.sq v hv
         ·simp at hv; subst hv; rw [hus]; omega
        ·rw [List.pairwise_append]
         refine ⟨hU.asc, List.pairwise_singleton _ _, fun a ha b hb => ?_⟩
         simp at hb; subst hb
         unfold ult
         rw [huc, hus]
         rcases (hU.cl a ha).2 with h | h <;> omega
       ·rw [show decide (q < 8) = false by simpa using hq, j4f]
        exact .inl skip
      ·rw [j4f]
       exact .inl skip
     ·rw [show decide (i < 24) = false by simpa using hi2]
      exact .inr ⟨s, rfl, stop⟩
    ·rw [if_neg (by simpa using hi1)]
     exact .inr ⟨s, rfl, stop⟩
   obtain ⟨s', e1, e2⟩ := inner
   rw [e1, Option.bind_some]
   unfold Y0o.j2
   rw [Y13, w64n (by omega)]
   refine ⟨_, rfl, rfl, ?_⟩
   have : ((k + 1 : Nat) : Int) = (k : Int) + 1 := by omega
   rw [this]
   exact e2
  ·rintro ⟨s, c⟩ ⟨hc, hU⟩
   simp only at hc hU
   subst hc
   exact ⟨s, rfl, hU⟩
 obtain ⟨s, e1, e2⟩ := key
 rw [e1]
 exact ⟨s, rfl, e2⟩
theorem US_effN {c q : Int} {s : List Y0j} (h : US c q s) : effN s ≤ 4 * s.length := by
 have : ∀ l : List Y0j, (∀ u ∈ l, UOK u) → effN l ≤ 4 * l.length := by
  intro l
  induction l with
  | nil => intro _; exact Nat.zero_le _
  | cons u l ih =>
   intro h
   have h1 := (h u (by simp)).len
   have h2 := ih fun v hv => h v (by simp [hv])
   unfold effN at h2 ⊢
   rw [List.map_cons, List.sum_cons, List.length_cons]
   omega
 exact this s h.ok
theorem US_sub {c q : Int} {s t : List Y0j} (h : US c q s) (ht : t.Sublist s) : US c q t :=
 ⟨fun u hu => h.ok u (ht.subset hu), fun u hu => h.cl u (ht.subset hu), fun u hu => h.sq u (ht.subset hu), h.asc.sublist ht, by have := h.len; have := ht.length_le; omega⟩
theorem Y9M {s : List Y0j} (h : US 3 0 s) (n : Int) : ∃ p : Y0j → Bool, Y0Z s n = some (s.filter p) := by
 refine ⟨fun u => decide (u.Seq ≤ (Y0k n 9 (u.Client - 101)).getD 0), ?_⟩
 obtain ⟨p, hp⟩ : ∃ p : Y0j → Bool, p = fun u => decide (u.Seq ≤ (Y0k n 9 (u.Client - 101)).getD 0) := ⟨_, rfl⟩
 rw [← hp]
 unfold Y0Z
 have hlen := h.len
 have := Y2Y (step := Y0Z.l1 s n) (fun k => ((s.take k).filter p, (k : Int))) s.length (b := s.filter p) (fun k hk => ?_) ?_
 ·have this : Y19 (Y0Z.l1 s n) ([], 0) = some (s.filter p) := this
  rw [this]
  rfl
 ·have hm := List.getElem_mem hk
  have hc := h.cl _ hm
  unfold Y0Z.l1
  simp only [Y1k hk, if_true, Y1a hk, Option.bind_some, Y13]
  rw [w64 (x := s[k].Client - 101) (by omega) (by omega)]
  obtain ⟨d, hd, _⟩ := Y2w n 9 (s[k].Client - 101).toNat (by decide) (by decide) (by omega)
  rw [show (((s[k].Client - 101).toNat : Nat) : Int) = s[k].Client - 101 by omega] at hd
  rw [hd, Option.bind_some, Y1i hk, List.filter_append]
  have ep : p s[k] = decide (s[k].Seq ≤ d) := by rw [hp]; simp only [hd, Option.getD_some]
  have hle : ((s.take k).filter p).length ≤ s.length := Nat.le_trans (List.length_filter_le _ _) (by rw [List.length_take]; omega)
  unfold Y0Z.j2
  by_cases hs : s[k].Seq ≤ d
  ·rw [if_pos (by simpa using hs), Y2L (by simp only [List.length_singleton]; omega), Option.bind_some, Y13, Y2G hk (by omega)]
   have : [s[k]].filter p = [s[k]] := by rw [List.filter_cons, ep, if_pos (by simpa using hs)]; rfl
   rw [this]
  ·rw [if_neg (by simpa using hs), Y13, Y2G hk (by omega)]
   have : [s[k]].filter p = [] := by rw [List.filter_cons, ep, if_neg (by simpa using hs)]; rfl
   rw [this, List.append_nil]
 ·unfold Y0Z.l1
  simp only [Y16, Bool.false_eq_true, if_false, List.take_length]
end
section
open Go Go.Proofs.YtpfgdjfiimknlaaGreatL
structure RG (es : List Y0c) (lo hi : Y05) (r : List (List UInt8)) : Prop where
 asc : Asc r
 len : r.length ≤ 100000000
 mem : ∀ x, x ∈ r ↔ ∃ e ∈ es, ¬ Y1W e.Key lo ∧ ¬ Y1W hi e.Key ∧ x ∈ e.Objects
structure EB (es : List Y0c) : Prop where
 len : es.length ≤ 10000
 olen : ∀ e ∈ es, e.Objects.length ≤ 10000
theorem GX.eb {P : Y05 → List UInt8 → Prop} {es : List Y0c} (h : GX P es) : EB es := ⟨h.len, h.olen⟩
theorem Y8u {f : Y0l} {es : List Y0c} (hb : EB es) (lo hi : Y05) : ∃ r, Y0S ⟨f, es⟩ lo hi = some r ∧ RG es lo hi r := by
 unfold Y0S
 have hlen := hb.len
 have key : ∃ b : List (List UInt8), Y19 (Y0S.l1 ⟨f, es⟩ lo hi) ([], 0) = some b ∧ b.length ≤ 100000000 ∧ ∀ x, x ∈ b ↔ ∃ e ∈ es, ¬ Y1W e.Key lo ∧ ¬ Y1W hi e.Key ∧ x ∈ e.Objects := by
  refine Y2B (fun n s => s.2 = (n : Int) ∧ s.1.length ≤ 10000 * n ∧ ∀ x, x ∈ s.1 ↔ ∃ e ∈ es.take n, ¬ Y1W e.Key lo ∧ ¬ Y1W hi e.Key ∧ x ∈ e.Objects) es.length ⟨rfl, Nat.le_refl _, by simp⟩ ?_ ?_
  ·rintro n ⟨r, i⟩ hn ⟨hi', h1, h2⟩
   simp only at hi' h1 h2
   subst hi'
   have ho := hb.olen _ (List.getElem_mem hn)
   unfold Y0S.l1
   simp only [Y1k hn, if_true, Y1a hn, Option.bind_some, Y97]
   have tk : ∀ x, (∃ e ∈ es.take (n + 1), ¬ Y1W e.Key lo ∧ ¬ Y1W hi e.Key ∧ x ∈ e.Objects) ↔ (x ∈ r ∨ (¬ Y1W es[n].Key lo ∧ ¬ Y1W hi es[n].Key ∧ x ∈ es[n].Objects)) := by
    intro x
    rw [Y1i hn, h2]
    constructor
    ·rintro ⟨e, he, h⟩
     rcases List.mem_append.1 he with he | he
     ·exact .inl ⟨e, he, h⟩
     ·have : e = es[n] := by simpa using he
      rw [this] at h
      exact .inr h
    ·rintro (⟨e, he, h⟩ | h)
     ·exact ⟨e, List.mem_append.2 (.inl he), h⟩
     ·exact ⟨es[n], List.mem_append.2 (.inr (by simp)), h⟩
   have skip : (¬ (¬ Y1W es[n].Key lo ∧ ¬ Y1W hi es[n].Key)) → ∃ s', Y0S.j3 r (n : Int) es[n] false = some (.inl s') ∧ s'.2 = ((n + 1 : Nat) : Int) ∧ s'.1.length ≤ 10000 * (n + 1) ∧ ∀ x, x ∈ s'.1 ↔ ∃ e ∈ es.take (n + 1), ¬ Y1W e.Key lo ∧ ¬ Y1W hi e.Key ∧ x ∈ e.Objects := by
    intro hc
    unfold Y0S.j3 Y0S.j2
    rw [if_neg (by simp), Y13, Y2G hn (by omega)]
    refine ⟨_, rfl, rfl, by simp only; omega, fun x => ?_⟩
    rw [tk]
    constructor
    ·exact .inl
    ·rintro (h | h)
     ·exact h
     ·exact absurd ⟨h.1, h.2.1⟩ hc
   by_cases c1 : Y1W es[n].Key lo
   ·rw [if_neg (by rw [decide_eq_true_eq, Y4R]; exact fun h => h c1)]
    exact skip fun h => h.1 c1
   ·rw [if_pos (by rw [decide_eq_true_eq, Y4R]; exact c1)]
    by_cases c2 : Y1W hi es[n].Key
    ·rw [decide_eq_false (by rw [Y4R]; exact fun h => h c2)]
     exact skip fun h => h.2 c2
    ·rw [decide_eq_true (by rw [Y4R]; exact c2)]
     unfold Y0S.j3 Y0S.j2
     rw [if_pos rfl, Y2L (by omega), Option.bind_some, Y13, Y2G hn (by omega)]
     refine ⟨_, rfl, rfl, by simp only [List.length_append]; omega, fun x => ?_⟩
     rw [tk, List.mem_append]
     constructor
     ·rintro (h | h)
      ·exact .inl h
      ·exact .inr ⟨c1, c2, h⟩
     ·rintro (h | h)
      ·exact .inl h
      ·exact .inr h.2.2
  ·rintro ⟨r, i⟩ ⟨hi', h1, h2⟩
   simp only at hi' h1 h2
   subst hi'
   unfold Y0S.l1
   simp only [Y16, Bool.false_eq_true, if_false]
   rw [List.take_length] at h2
   exact ⟨r, rfl, by omega, h2⟩
 obtain ⟨b, b1, b2, b3⟩ := key
 rw [b1, Option.bind_some]
 unfold Y0S.j1
 rw [Y5q (by omega), Option.bind_some]
 exact ⟨_, rfl, Y8s b, by have := Y68 b; omega, fun x => by rw [Y5A, b3]⟩
theorem Y7t {f : Y0l} {es : List Y0c} (hb : EB es) (k : Y05) : ∃ r, Y2d ⟨f, es⟩ k = some r ∧ RG es k k r := by
 unfold Y2d
 obtain ⟨r, h1, h2⟩ := Y8u (f := f) hb k k
 rw [h1, Option.bind_some]
 exact ⟨r, rfl, h2⟩
theorem RG.look {es : List Y0c} {k : Y05} {r : List (List UInt8)} (h : RG es k k r) (x : List UInt8) : x ∈ r ↔ ∃ e ∈ es, e.Key = k ∧ x ∈ e.Objects := by
 rw [h.mem]
 constructor
 ·rintro ⟨e, he, h1, h2, h3⟩
  exact ⟨e, he, Y5R h1 h2, h3⟩
 ·rintro ⟨e, he, rfl, h3⟩
  exact ⟨e, he, Y2C _, Y2C _, h3⟩
theorem idx_ex {α : Type} {l : List α} {d : Int} (h0 : 0 ≤ d) (h1 : d < l.length) : ∃ x, idx l d = some x := by
 obtain ⟨k, rfl⟩ : ∃ k : Nat, d = k := ⟨d.toNat, by omega⟩
 exact ⟨_, Y1a (show k < l.length by omega)⟩
theorem field_ex (n : Int) : ∃ f, Y1b n = some f := by
 unfold Y1b
 obtain ⟨d, e1, a1, a2⟩ := Y2w n 5 0 (by decide) (by decide) (by decide)
 have e1 : Y0k n 5 0 = some d := e1
 rw [e1, Option.bind_some]
 obtain ⟨x, e2⟩ := idx_ex (l := ([([97] : List UInt8), ([98] : List UInt8), ([99] : List UInt8), ([120, 49] : List UInt8), ([110, 111, 110, 101] : List UInt8)])) a1 (by simpa using a2)
 rw [e2, Option.bind_some]
 obtain ⟨d2, e3, b1, b2⟩ := Y2w n 5 1 (by decide) (by decide) (by decide)
 have e3 : Y0k n 5 1 = some d2 := e3
 rw [e3, Option.bind_some, Y13]
 obtain ⟨d3, e4, c1, c2⟩ := Y2w n 3 4 (by decide) (by decide) (by decide)
 have e4 : Y0k n 3 4 = some d3 := e4
 rw [e4, Option.bind_some]
 obtain ⟨d5, e7, g1, g2⟩ := Y2w n 2 8 (by decide) (by decide) (by decide)
 have e7 : Y0k n 2 8 = some d5 := e7
 have j2 : ∀ y, ∃ f, Y1b.j2 n x y = some f := by
  intro y
  unfold Y1b.j2
  split
  ·rw [e7, Option.bind_some, Y13]
   exact ⟨_, rfl⟩
  ·exact ⟨_, rfl⟩
 split
 ·obtain ⟨d4, e5, f1, f2⟩ := Y2w n 2 6 (by decide) (by decide) (by decide)
  have e5 : Y0k n 2 6 = some d4 := e5
  rw [e5, Option.bind_some]
  obtain ⟨y, e6⟩ := idx_ex (l := [(1 : Int), 4]) f1 (by simpa using f2)
  rw [e6, Option.bind_some]
  exact j2 y
 ·exact j2 _
end
section
open Go Go.Proofs.YtpfgdjfiimknlaaGreatL
theorem Y5N {s : List Y0j} (h : US 3 0 s) : Y1X s = some ⟨Y5Z s []⟩ ∧ GD 100 (Y5Z s []) := by
 have h1 := h.len
 have h2 := US_effN h
 obtain ⟨a, b⟩ := Fold_eq (s := s) (fun u hu => (h.ok u hu).ef) (by omega) (by omega)
 exact ⟨a, b.mono (by omega)⟩
end
section
open Go Go.Proofs.YtpfgdjfiimknlaaGreatL
abbrev wOwn : List UInt8 := [111, 119, 110, 101, 114]
abbrev wAnn : List UInt8 := [97, 110, 110]
abbrev wBob : List UInt8 := [98, 111, 98]
def wE (o s : List UInt8) : Y0D := ⟨1, o, wOwn, 0, s⟩
def wFl (c : Int) (s : List UInt8) : Y07 := ⟨wOwn, ⟨true, 0, c, 1, 0, s⟩, false, 0, 0, [], false⟩
def wT3 : List Y06 := [⟨[97], [wFl 102 wAnn]⟩, ⟨[98], [wFl 101 wAnn]⟩, ⟨[99], [wFl 103 wBob]⟩]
def wX : List Y0c := [⟨⟨2, 0, wAnn⟩, [[97], [98]]⟩, ⟨⟨2, 0, wBob⟩, [[99]]⟩]
def wF : Y0l := ⟨wOwn, 1, 2, 0⟩
theorem wE_ef (c : Int) {o s : List UInt8} (h1 : o.length ≤ 1000) (h2 : s.length ≤ 1000) : ∀ e ∈ (⟨c, 1, 0, [wE o s]⟩ : Y0j).Effects, EF e := by
 intro e he
 have : e = wE o s := by simpa using he
 subst this
 exact ⟨h1, by show wOwn.length ≤ 1000; decide, h2⟩
theorem w_store : Y19 Y0P.l1 (0, []) = some wT3 ∧ GD 100 wT3 := by
 obtain ⟨a1, g1⟩ := Y6Q (n := 0) (t := ⟨[]⟩) (u := ⟨101, 1, 0, [wE [98] wAnn]⟩) (GD_nil 0) (wE_ef 101 (by decide) (by decide)) (by decide)
 obtain ⟨a2, g2⟩ := Y6Q (t := ⟨appT ⟨101, 1, 0, [wE [98] wAnn]⟩ []⟩) (u := ⟨102, 1, 0, [wE [97] wAnn]⟩) g1 (wE_ef 102 (by decide) (by decide)) (by decide)
 obtain ⟨a3, g3⟩ := Y6Q (t := ⟨appT ⟨102, 1, 0, [wE [97] wAnn]⟩ (appT ⟨101, 1, 0, [wE [98] wAnn]⟩ [])⟩) (u := ⟨103, 1, 0, [wE [99] wBob]⟩) g2 (wE_ef 103 (by decide) (by decide)) (by decide)
 have ew : appT ⟨103, 1, 0, [wE [99] wBob]⟩ (appT ⟨102, 1, 0, [wE [97] wAnn]⟩ (appT ⟨101, 1, 0, [wE [98] wAnn]⟩ [])) = wT3 := by decide
 have ew' : appT ⟨103, 1, 0, [wE [99] wBob]⟩ (⟨appT ⟨102, 1, 0, [wE [97] wAnn]⟩ (appT ⟨101, 1, 0, [wE [98] wAnn]⟩ [])⟩ : Y0y).Objects = wT3 := ew
 rw [ew'] at a3 g3
 refine ⟨?_, g3.mono (by decide)⟩
 rw [Y2m (s' := (1, appT ⟨101, 1, 0, [wE [98] wAnn]⟩ [])), Y2m (s' := (2, appT ⟨102, 1, 0, [wE [97] wAnn]⟩ (appT ⟨101, 1, 0, [wE [98] wAnn]⟩ []))), Y2m (s' := (3, wT3)), Y2e (b := wT3)]
 ·rfl
 ·unfold Y0P.l1
  simp only
  rw [if_pos (by decide), show idx [([98] : List UInt8), ([97] : List UInt8), ([99] : List UInt8)] 2 = some [99] from rfl, Option.bind_some, Y13, show IntKind.i64.wrap (101 + 2) = 103 from rfl, show idx [([97, 110, 110] : List UInt8), ([97, 110, 110] : List UInt8), ([98, 111, 98] : List UInt8)] 2 = some wBob from rfl, Option.bind_some]
  show (Y2y ⟨appT ⟨102, 1, 0, [wE [97] wAnn]⟩ (appT ⟨101, 1, 0, [wE [98] wAnn]⟩ [])⟩ ⟨103, 1, 0, [wE [99] wBob]⟩).bind _ = _
  rw [a3]
  rfl
 ·unfold Y0P.l1
  simp only
  rw [if_pos (by decide), show idx [([98] : List UInt8), ([97] : List UInt8), ([99] : List UInt8)] 1 = some [97] from rfl, Option.bind_some, Y13, show IntKind.i64.wrap (101 + 1) = 102 from rfl, show idx [([97, 110, 110] : List UInt8), ([97, 110, 110] : List UInt8), ([98, 111, 98] : List UInt8)] 1 = some wAnn from rfl, Option.bind_some]
  show (Y2y ⟨appT ⟨101, 1, 0, [wE [98] wAnn]⟩ []⟩ ⟨102, 1, 0, [wE [97] wAnn]⟩).bind _ = _
  rw [a2]
  rfl
 ·unfold Y0P.l1
  simp only
  rw [if_pos (by decide), show idx [([98] : List UInt8), ([97] : List UInt8), ([99] : List UInt8)] 0 = some [98] from rfl, Option.bind_some, Y13, show IntKind.i64.wrap (101 + 0) = 101 from rfl, show idx [([97, 110, 110] : List UInt8), ([97, 110, 110] : List UInt8), ([98, 111, 98] : List UInt8)] 0 = some wAnn from rfl, Option.bind_some]
  show (Y2y ⟨[]⟩ ⟨101, 1, 0, [wE [98] wAnn]⟩).bind _ = _
  rw [a1]
  rfl
theorem wk1 : Y2p wF ⟨[97], [wFl 102 wAnn]⟩ = [⟨2, 0, wAnn⟩] := by decide
theorem wk2 : Y2p wF ⟨[98], [wFl 101 wAnn]⟩ = [⟨2, 0, wAnn⟩] := by decide
theorem wk3 : Y2p wF ⟨[99], [wFl 103 wBob]⟩ = [⟨2, 0, wBob⟩] := by decide
theorem wX_ix : IsIx (PB wF wT3) wX := by
 refine ⟨?_, ?_, ?_, fun k s => ?_⟩
 ·unfold wX
  refine List.pairwise_cons.2 ⟨fun b hb => ?_, List.pairwise_singleton _ _⟩
  have : b = ⟨⟨2, 0, wBob⟩, [[99]]⟩ := by simpa using hb
  subst this
  exact .inr ⟨rfl, .inr ⟨rfl, by decide⟩⟩
 ·intro e he
  have : e = ⟨⟨2, 0, wAnn⟩, [[97], [98]]⟩ ∨ e = ⟨⟨2, 0, wBob⟩, [[99]]⟩ := by simpa [wX] using he
  rcases this with rfl | rfl
  ·show List.Pairwise _ _
   refine List.pairwise_cons.2 ⟨fun b hb => ?_, List.pairwise_singleton _ _⟩
   have : b = [98] := by simpa using hb
   subst this
   decide
  ·exact List.pairwise_singleton _ _
 ·intro e he
  have : e = ⟨⟨2, 0, wAnn⟩, [[97], [98]]⟩ ∨ e = ⟨⟨2, 0, wBob⟩, [[99]]⟩ := by simpa [wX] using he
  rcases this with rfl | rfl <;> simp
 ·constructor
  ·rintro ⟨e, he, rfl, hs⟩
   have : e = ⟨⟨2, 0, wAnn⟩, [[97], [98]]⟩ ∨ e = ⟨⟨2, 0, wBob⟩, [[99]]⟩ := by simpa [wX] using he
   rcases this with rfl | rfl
   ·have : s = [97] ∨ s = [98] := by simpa using hs
    rcases this with rfl | rfl
    ·exact ⟨⟨[97], [wFl 102 wAnn]⟩, by simp [wT3], rfl, by rw [wk1]; simp⟩
    ·exact ⟨⟨[98], [wFl 101 wAnn]⟩, by simp [wT3], rfl, by rw [wk2]; simp⟩
   ·have : s = [99] := by simpa using hs
    subst this
    exact ⟨⟨[99], [wFl 103 wBob]⟩, by simp [wT3], rfl, by rw [wk3]; simp⟩
  ·rintro ⟨o, ho, rfl, hk⟩
   have : o = ⟨[97], [wFl 102 wAnn]⟩ ∨ o = ⟨[98], [wFl 101 wAnn]⟩ ∨ o = ⟨[99], [wFl 103 wBob]⟩ := by simpa [wT3] using ho
   rcases this with rfl | rfl | rfl
   ·rw [wk1] at hk
    have : k = ⟨2, 0, wAnn⟩ := by simpa using hk
    subst this
    exact ⟨⟨⟨2, 0, wAnn⟩, [[97], [98]]⟩, by simp [wX], rfl, by simp⟩
   ·rw [wk2] at hk
    have : k = ⟨2, 0, wAnn⟩ := by simpa using hk
    subst this
    exact ⟨⟨⟨2, 0, wAnn⟩, [[97], [98]]⟩, by simp [wX], rfl, by simp⟩
   ·rw [wk3] at hk
    have : k = ⟨2, 0, wBob⟩ := by simpa using hk
    subst this
    exact ⟨⟨⟨2, 0, wBob⟩, [[99]]⟩, by simp [wX], rfl, by simp⟩
theorem Y6R {e : Y0c} : e ∈ wX ↔ e = ⟨⟨2, 0, wAnn⟩, [[97], [98]]⟩ ∨ e = ⟨⟨2, 0, wBob⟩, [[99]]⟩ := by simp [wX]
theorem Y94 : Y0P = some true := by
 unfold Y0P
 obtain ⟨e1, g⟩ := w_store
 obtain ⟨es, e2, x2⟩ := Y58 wF (objs := wT3) g.go (by decide)
 have : es = wX := x2.ix.uniq wX_ix
 subst this
 have e2 : Y1x (⟨([111, 119, 110, 101, 114] : List UInt8), 1, 2, 0⟩ : Y0l) (⟨wT3⟩ : Y0y) = some ⟨wF, wX⟩ := e2
 rw [e1, Option.bind_some]
 unfold Y0P.j2
 rw [e2, Option.bind_some]
 obtain ⟨r1, e3, x3⟩ := Y7t (f := wF) x2.eb ⟨2, 0, wAnn⟩
 have h1 : r1 = [[97], [98]] := by
  refine Y5z x3.asc (List.pairwise_cons.2 ⟨fun b hb => ?_, List.pairwise_singleton _ _⟩) fun x => ?_
  ·have : b = [98] := by simpa using hb
   subst this
   decide
  ·rw [x3.look]
   constructor
   ·rintro ⟨e, he, hk, hx⟩
    rcases Y6R.1 he with rfl | rfl
    ·exact hx
    ·exact absurd hk (by decide)
   ·exact fun hx => ⟨_, Y6R.2 (.inl rfl), rfl, hx⟩
 subst h1
 have e3 : Y2d ⟨wF, wX⟩ (⟨2, 0, ([97, 110, 110] : List UInt8)⟩ : Y05) = some [[97], [98]] := e3
 rw [e3, Option.bind_some]
 obtain ⟨r2, e4, x4⟩ := Y8u (f := wF) x2.eb ⟨2, 0, [98]⟩ ⟨2, 0, [99]⟩
 have kl : ∀ a b : List UInt8, Y1W ⟨2, 0, a⟩ ⟨2, 0, b⟩ ↔ Op.bytesLess a b = true := fun a b => by simp [Y1W]
 have h2 : r2 = [[99]] := by
  refine Y5z x4.asc (List.pairwise_singleton _ _) fun x => ?_
  rw [x4.mem]
  constructor
  ·rintro ⟨e, he, h1, h2, hx⟩
   rcases Y6R.1 he with rfl | rfl
   ·exact absurd ((kl wAnn [98]).2 (by decide)) h1
   ·exact hx
  ·exact fun hx => ⟨_, Y6R.2 (.inr rfl), fun h => absurd ((kl wBob [98]).1 h) (by decide), fun h => absurd ((kl [99] wBob).1 h) (by decide), hx⟩
 subst h2
 rw [e4, Option.bind_some]
 obtain ⟨r3, e5, x5⟩ := Y7t (f := wF) x2.eb ⟨0, 0, []⟩
 have h3 : r3 = [] := by
  refine Y5z x5.asc .nil fun x => ?_
  rw [x5.look]
  constructor
  ·rintro ⟨e, he, hk, hx⟩
   rcases Y6R.1 he with rfl | rfl
   ·exact absurd hk (by decide)
   ·exact absurd hk (by decide)
  ·intro hx
   simp at hx
 subst h3
 rw [if_pos (by decide), if_pos (by decide), show idx [([97] : List UInt8), [98]] 0 = some [97] from rfl, Option.bind_some, if_pos (by decide), show idx [([97] : List UInt8), [98]] 1 = some [98] from rfl, Option.bind_some, if_pos (by decide), if_pos (by decide), show idx [([99] : List UInt8)] 0 = some [99] from rfl, Option.bind_some, if_pos (by decide), e5, Option.bind_some]
 rfl
end
section
open Go Go.Proofs.YtpfgdjfiimknlaaGreatL
end
section
open Go Go.Proofs.YtpfgdjfiimknlaaGreatL
theorem Y5E {a b : List (List UInt8)} (hl : a.length ≤ 4611686018427387904) : Y0J a b = some (decide (a = b)) := by
 unfold Y0J
 by_cases h : a.length = b.length
 ·rw [if_neg (by simp [h])]
  have key : Y19 (Y0J.l1 a b) 0 = some (if a.map (fun x => x) = b then .inl () else .inr false) := by
   refine Y6o (fun x => x) a b h (fun k hk => ?_) ?_
   ·unfold Y0J.l1
    simp only [Y1k hk, if_true, Y1a hk, Y1a (show k < b.length by omega), Option.bind_some]
    by_cases he : a[k] = b[k]'(by omega)
    ·rw [if_neg (by simpa using he), if_pos he, Y13, Y2G hk (by omega)]
    ·rw [if_pos (by simpa using he), if_neg he]
   ·unfold Y0J.l1
    simp only [Y16, Bool.false_eq_true, if_false]
  rw [key, Option.bind_some, List.map_id']
  by_cases he : a = b
  ·rw [if_pos he]; simp [he, Y0J.j1]
  ·rw [if_neg he]; simp [he]
 ·rw [if_pos (by simp; omega)]
  have : a ≠ b := fun e => h (by rw [e])
  simp [this]
theorem entry_eq (a b : Y0c) (hl : a.Objects.length ≤ 4611686018427387904) : Y1d a b = some (decide (a = b)) := by
 unfold Y1d Y1d.j1
 have e1 : ((⟨a.Key.f_Type, a.Key.N, a.Key.S⟩ : Y05) = (⟨b.Key.f_Type, b.Key.N, b.Key.S⟩ : Y05)) ↔ a.Key = b.Key := Iff.rfl
 by_cases h : a.Key = b.Key
 ·rw [if_pos (by rw [decide_eq_true_eq]; exact h), Y5E hl, Option.bind_some]
  congr 1
  refine decide_eq_decide.2 ⟨fun h2 => ?_, fun h2 => by rw [h2]⟩
  obtain ⟨k, o⟩ := a
  obtain ⟨k', o'⟩ := b
  simp only at h h2
  rw [h, h2]
 ·rw [if_neg (by rw [decide_eq_true_eq]; exact h)]
  have : a ≠ b := fun e => h (by rw [e])
  simp [this]
theorem Y7V {a b : List Y0c} (hl : a.length ≤ 4611686018427387904) (ho : ∀ e ∈ a, e.Objects.length ≤ 4611686018427387904) : Y0C a b (fun p => Y1d p.1 p.2) = some (decide (a = b)) := by
 unfold Y0C
 by_cases h : a.length = b.length
 ·rw [if_neg (by simp [h])]
  have key : Y19 (Y0C.l1 a b fun p => Y1d p.1 p.2) 0 = some (if a.map (fun x => x) = b then .inl () else .inr false) := by
   refine Y6o (fun x => x) a b h (fun k hk => ?_) ?_
   ·unfold Y0C.l1
    simp only [Y1k hk, if_true, Y1a hk, Y1a (show k < b.length by omega), Option.bind_some]
    rw [entry_eq _ _ (ho _ (List.getElem_mem hk)), Option.bind_some]
    by_cases he : a[k] = b[k]'(by omega)
    ·rw [if_neg (by simp [he]), if_pos he, Y13, Y2G hk (by omega)]
    ·rw [if_pos (by simp [he]), if_neg he]
   ·unfold Y0C.l1
    simp only [Y16, Bool.false_eq_true, if_false]
  rw [key, Option.bind_some, List.map_id']
  by_cases he : a = b
  ·rw [if_pos he]; simp [he, Y0C.j1]
  ·rw [if_neg he]; simp [he]
 ·rw [if_pos (by simp; omega)]
  have : a ≠ b := fun e => h (by rw [e])
  simp [this]
theorem Y9U {f g : Y0l} {a b : List Y0c} (ha : EB a) : Y0W ⟨f, a⟩ ⟨g, b⟩ = some (decide (f.Name = g.Name ∧ f.Kind = g.Kind ∧ f.f_Type = g.f_Type ∧ a = b)) := by
 have h1 := ha.len
 unfold Y0W Y0W.j2
 show (if (f.Name == g.Name) = true then (if (f.Kind == g.Kind) = true then (if (f.f_Type == g.f_Type) = true then ((Y0C a b (fun p : Y0c × Y0c => Y1d p.1 p.2)).bind fun x42 => Y0W.j1 x42) else Y0W.j1 false) else Y0W.j1 false) else Y0W.j1 false) = _
 unfold Y0W.j1
 by_cases c1 : f.Name = g.Name
 ·rw [if_pos (by simpa using c1)]
  by_cases c2 : f.Kind = g.Kind
  ·rw [if_pos (by simpa using c2)]
   by_cases c3 : f.f_Type = g.f_Type
   ·rw [if_pos (by simpa using c3), Y7V (by omega) (fun e he => by have := ha.olen e he; omega), Option.bind_some]
    congr 1
    exact decide_eq_decide.2 ⟨fun h => ⟨c1, c2, c3, h⟩, fun h => h.2.2.2⟩
   ·rw [if_neg (by simpa using c3)]; simp [c3]
  ·rw [if_neg (by simpa using c2)]; simp [c2]
 ·rw [if_neg (by simpa using c1)]; simp [c1]
end
section
open Go Go.Proofs.YtpfgdjfiimknlaaGreatL
theorem Y9D {n : Nat} {x y : Y07} (h : GF n x) (hn : n ≤ 1000000) : Y0Q x y = some (decide (x = y)) := by
 have hl := h.len
 unfold Y0Q Y0Q.j1
 by_cases c1 : x.Name = y.Name
 ·rw [if_pos (by simpa using c1)]
  by_cases c2 : x.Register = y.Register
  ·rw [if_pos (by rw [decide_eq_true_eq]; exact c2)]
   by_cases c3 : x.HasMax = y.HasMax
   ·rw [if_pos (by simpa using c3)]
    by_cases c4 : x.Max = y.Max
    ·rw [if_pos (by simpa using c4)]
     by_cases c5 : x.Sum = y.Sum
     ·rw [if_pos (by simpa using c5), Y5E (by omega), Option.bind_some]
      by_cases c6 : x.Elems = y.Elems
      ·rw [if_pos (by simpa using c6)]
       by_cases c7 : x.Flag = y.Flag
       ·have : x = y := by
         obtain ⟨a1, a2, a3, a4, a5, a6, a7⟩ := x
         obtain ⟨b1, b2, b3, b4, b5, b6, b7⟩ := y
         simp only at c1 c2 c3 c4 c5 c6 c7
         rw [c1, c2, c3, c4, c5, c6, c7]
        simp [this]
       ·have : x ≠ y := fun e => c7 (by rw [e])
        simp [this, c7]
      ·have : x ≠ y := fun e => c6 (by rw [e])
       rw [if_neg (by simpa using c6)]; simp [this]
     ·have : x ≠ y := fun e => c5 (by rw [e])
      rw [if_neg (by simpa using c5)]; simp [this]
    ·have : x ≠ y := fun e => c4 (by rw [e])
     rw [if_neg (by simpa using c4)]; simp [this]
   ·have : x ≠ y := fun e => c3 (by rw [e])
    rw [if_neg (by simpa using c3)]; simp [this]
  ·have : x ≠ y := fun e => c2 (by rw [e])
   rw [if_neg (by rw [decide_eq_true_eq]; exact c2)]; simp [this]
 ·have : x ≠ y := fun e => c1 (by rw [e])
  rw [if_neg (by simpa using c1)]; simp [this]
theorem Y91 {a b : List Y07} (hl : a.length ≤ 1000000) (ho : ∀ e ∈ a, GF 100 e) : Y0E a b (fun p => Y0Q p.1 p.2) = some (decide (a = b)) := by
 unfold Y0E
 by_cases h : a.length = b.length
 ·rw [if_neg (by simp [h])]
  have key : Y19 (Y0E.l1 a b fun p => Y0Q p.1 p.2) 0 = some (if a.map (fun x => x) = b then .inl () else .inr false) := by
   refine Y6o (fun x => x) a b h (fun k hk => ?_) ?_
   ·unfold Y0E.l1
    simp only [Y1k hk, if_true, Y1a hk, Y1a (show k < b.length by omega), Option.bind_some]
    rw [Y9D (ho _ (List.getElem_mem hk)) (by decide), Option.bind_some]
    by_cases he : a[k] = b[k]'(by omega)
    ·rw [if_neg (by simp [he]), if_pos he, Y13, Y2G hk (by omega)]
    ·rw [if_pos (by simp [he]), if_neg he]
   ·unfold Y0E.l1
    simp only [Y16, Bool.false_eq_true, if_false]
  rw [key, Option.bind_some, List.map_id']
  by_cases he : a = b
  ·rw [if_pos he]; simp [he, Y0E.j1]
  ·rw [if_neg he]; simp [he]
 ·rw [if_pos (by simp; omega)]
  have : a ≠ b := fun e => h (by rw [e])
  simp [this]
theorem Y8O {a : Y06} (b : Y06) (g : GO a) : Y0Y a b = some (decide (a = b)) := by
 have hl := g.len
 unfold Y0Y Y0Y.j1
 by_cases c1 : a.Name = b.Name
 ·rw [if_pos (by simpa using c1), Y91 (by omega) g.good, Option.bind_some]
  congr 1
  refine decide_eq_decide.2 ⟨fun h => ?_, fun h => by rw [h]⟩
  obtain ⟨a1, a2⟩ := a
  obtain ⟨b1, b2⟩ := b
  simp only at c1 h
  rw [c1, h]
 ·have : a ≠ b := fun e => c1 (by rw [e])
  rw [if_neg (by simpa using c1)]; simp [this]
theorem Y8K {a : Y06} (b : Y06) (g : GO a) : Y37 ⟨[a]⟩ ⟨[b]⟩ = some (decide (a = b)) := by
 unfold Y37 Y0G
 rw [if_neg (by simp)]
 have key : Y19 (Y0G.l1 [a] [b] fun p => Y0Y p.1 p.2) 0 = some (if [a].map (fun x => x) = [b] then .inl () else .inr false) := by
  refine Y6o (fun x => x) [a] [b] rfl (fun k hk => ?_) ?_
  ·have hk0 : k = 0 := by simp at hk; omega
   subst hk0
   unfold Y0G.l1
   simp only [Y1k hk, if_true, Y1a hk, Y1a (show 0 < [b].length by simp), Option.bind_some]
   have e1 : Y0Y [a][0] ([b][0]'(by simp)) = some (decide (a = b)) := Y8O b g
   rw [e1, Option.bind_some]
   by_cases he : a = b
   ·rw [if_neg (by simp [he]), if_pos (show [a][0] = [b][0]'(by simp) from he), Y13, Y2G hk (by simp)]
   ·rw [if_pos (by simp [he]), if_neg (show ¬ [a][0] = [b][0]'(by simp) from he)]
  ·unfold Y0G.l1
   simp only [Y16, Bool.false_eq_true, if_false]
 rw [show (⟨[a]⟩ : Y0y).Objects = [a] from rfl, show (⟨[b]⟩ : Y0y).Objects = [b] from rfl, key, Option.bind_some]
 by_cases he : a = b
 ·rw [if_pos (by rw [he]; rfl)]; simp [he, Y0G.j1]
 ·rw [if_neg (by simpa using he)]; simp [he]
theorem Y8Z {α : Type} {key : α → List UInt8} (l : List α) (a : α) (k : List UInt8) : get key (l ++ [a]) k = (get key l k).or (if key a = k then some a else none) := by
 unfold get
 rw [List.find?_append]
 congr 1
 rw [List.find?_cons]
 by_cases h : key a = k
 ·rw [if_pos h, show (key a == k) = true by simp [h]]
 ·rw [if_neg h, show (key a == k) = false by simpa using h]
  rfl
section
variable {κ β : Type} [BEq κ] [LawfulBEq κ]
theorem Y5L : ∀ {l : List (κ × β)} {k : κ}, (l.map (·.1)).Nodup → ∀ s, (mdel l k).lookup s = if s == k then none else l.lookup s
 | [], k, _, s => by simp [mdel]
 | e :: l, k, h, s => by
  rw [List.map_cons, List.nodup_cons] at h
  unfold mdel
  cases hk : k == e.1 with
  | true =>
   have e1 : k = e.1 := by simpa using hk
   rw [if_pos rfl, List.lookup_cons, ← e1]
   cases hs : s == k with
   | true =>
    have e2 : s = k := by simpa using hs
    simp only [if_true]
    rw [e2, e1]
    cases hl : l.lookup e.1 with
    | none => rfl
    | some b => exact absurd (List.mem_map.2 ⟨(e.1, b), Y4G hl, rfl⟩) h.1
   | false => rfl
  | false =>
   rw [if_neg (by simp), List.lookup_cons, List.lookup_cons, Y5L h.2 s]
   cases hs : s == e.1 with
   | true =>
    have e2 : s = e.1 := by simpa using hs
    have : (s == k) = false := by
     rw [beq_eq_false_iff_ne] at hk ⊢
     rw [e2]
     exact fun e => hk e.symm
    rw [this]
    rfl
   | false => rfl
end
def chg (A : List Y06) (o : Y06) : Bool := !decide (get ON_ A o.Name = some o)
theorem Y8P (τ : List (List UInt8 × Y06)) : ∀ (m : List (List UInt8 × Bool)) (s : List UInt8), ((τ.foldl (fun m p => mset m p.1 true) m).lookup s) = if s ∈ τ.map (·.1) then some true else m.lookup s := by
 induction τ with
 | nil => intro m s; simp
 | cons p τ ih =>
  intro m s
  rw [List.foldl_cons, ih, Y36, List.map_cons]
  by_cases h1 : s ∈ τ.map (·.1)
  ·rw [if_pos h1, if_pos (List.mem_cons_of_mem _ h1)]
  ·rw [if_neg h1]
   by_cases h2 : s = p.1
   ·rw [if_pos (by simp [h2]), if_pos (by rw [h2]; exact List.mem_cons_self ..)]
   ·rw [if_neg (by simpa using h2), if_neg]
    rw [List.mem_cons]
    exact fun h => h.elim h2 h1
theorem Y92 {A B : List Y06} (ga : GD 100 A) (gb : GD 100 B) : ∃ φ, Y0s ⟨A⟩ ⟨B⟩ = some (φ, B.filter (chg A)) ∧ ∀ s, (φ s).getD false = true ↔ ((∃ o ∈ B, o.Name = s ∧ chg A o = true) ∨ (get ON_ A s ≠ none ∧ s ∉ B.map (·.Name))) := by
 unfold Y0s
 have hal := ga.len
 have hbl := gb.len
 have k1 : ∃ b : List (List UInt8 × Y06), Y19 (Y0s.l3 ⟨A⟩) (([] : List ((List UInt8) × Y06)), 0) = some b ∧ (b.map (·.1)).Nodup ∧ ∀ s, b.lookup s = get ON_ A s := by
  refine Y2B (fun n t => t.2 = (n : Int) ∧ (t.1.map (·.1)).Nodup ∧ ∀ s, t.1.lookup s = get ON_ (A.take n) s) A.length ⟨rfl, by simp, fun s => rfl⟩ ?_ ?_
  ·rintro n ⟨m, i⟩ hn ⟨hi, h1, h2⟩
   simp only at hi h1 h2
   subst hi
   unfold Y0s.l3
   simp only [Y1k hn, if_true, Y1a hn, Option.bind_some, Y13]
   rw [Y2G hn (by omega)]
   refine ⟨_, rfl, rfl, (Y4O _ _ _ h1).1, fun s => ?_⟩
   simp only
   rw [Y36, h2, Y1i hn, Y8Z]
   by_cases hs : s = A[n].Name
   ·rw [if_pos (by simp [hs]), if_pos (show ON_ A[n] = s from hs.symm), Y3S]
    ·rfl
    ·intro a ha
     obtain ⟨r, hr, rfl⟩ := List.getElem_of_mem ha
     rw [List.length_take] at hr
     rw [List.getElem_take]
     have := List.pairwise_iff_getElem.1 ga.asc r n (by omega) hn (by omega)
     intro e
     rw [show ON_ A[r] = ON_ A[n] from e.trans hs, Y2a] at this
     cases this
   ·rw [if_neg (by simpa using hs), if_neg (fun e => hs e.symm), Option.or_none]
  ·rintro ⟨m, i⟩ ⟨hi, h1, h2⟩
   simp only at hi h1 h2
   subst hi
   unfold Y0s.l3
   simp only [Y16, Bool.false_eq_true, if_false]
   rw [List.take_length] at h2
   exact ⟨m, rfl, h1, h2⟩
 obtain ⟨bm, e1, n1, l1⟩ := k1
 rw [e1, Option.bind_some]
 unfold Y0s.j5
 have k2 : ∃ b : List ((List UInt8) × Bool) × List ((List UInt8) × Y06) × List Y06, Y19 (Y0s.l2 ⟨B⟩) (([] : List ((List UInt8) × Bool)), bm, [], 0) = some b ∧
   b.2.2 = B.filter (chg A) ∧ (∀ s, (b.1.lookup s).getD false = true ↔ ∃ o ∈ B, o.Name = s ∧ chg A o = true) ∧ (b.2.1.map (·.1)).Nodup ∧ ∀ s, b.2.1.lookup s = if s ∈ B.map (·.Name) then none else get ON_ A s := by
  refine Y2B (fun n t => t.2.2.2 = (n : Int) ∧ t.2.2.1 = (B.take n).filter (chg A) ∧ (∀ s, (t.1.lookup s).getD false = true ↔ ∃ o ∈ B.take n, o.Name = s ∧ chg A o = true) ∧ (t.2.1.map (·.1)).Nodup ∧ ∀ s, t.2.1.lookup s = if s ∈ (B.take n).map (·.Name) then none else get ON_ A s) B.length ⟨rfl, rfl, fun s => by simp, n1, fun s => by simp [l1]⟩ ?_ ?_
  ·rintro n ⟨nm, m, l, i⟩ hn ⟨hi, h1, h2, h3, h4⟩
   simp only at hi h1 h2 h3 h4
   subst hi
   have hno : B[n].Name ∉ (B.take n).map (·.Name) := by
    intro hm
    obtain ⟨a, ha, he⟩ := List.mem_map.1 hm
    obtain ⟨r, hr, rfl⟩ := List.getElem_of_mem ha
    rw [List.length_take] at hr
    rw [List.getElem_take] at he
    have := List.pairwise_iff_getElem.1 gb.asc r n (by omega) hn (by omega)
    rw [show ON_ B[r] = ON_ B[n] from he, Y2a] at this
    cases this
   have hlk := h4 B[n].Name
   rw [if_neg hno] at hlk
   have hll : l.length ≤ 100 := by
    rw [h1]
    refine Nat.le_trans (List.length_filter_le _ _) ?_
    rw [List.length_take]
    omega
   have j4 : ∃ t, Y0s.j4 nm m l (n : Int) B[n] (chg A B[n]) = some (.inl t) ∧ (t.2.2.2 = ((n + 1 : Nat) : Int) ∧ t.2.2.1 = (B.take (n + 1)).filter (chg A) ∧ (∀ s, (t.1.lookup s).getD false = true ↔ ∃ o ∈ B.take (n + 1), o.Name = s ∧ chg A o = true) ∧ (t.2.1.map (·.1)).Nodup ∧ ∀ s, t.2.1.lookup s = if s ∈ (B.take (n + 1)).map (·.Name) then none else get ON_ A s) := by
    have hd : ((mdel m B[n].Name).map (·.1)).Nodup ∧ ∀ s, (mdel m B[n].Name).lookup s = if s ∈ (B.take (n + 1)).map (·.Name) then none else get ON_ A s := by
     refine ⟨((Y8d m B[n].Name).map _).nodup h3, fun s => ?_⟩
     rw [Y5L h3, h4, Y1i hn, List.map_append]
     by_cases hs : s = B[n].Name
     ·rw [if_pos (by simp [hs]), if_pos (List.mem_append.2 (.inr (by simp [hs])))]
     ·rw [if_neg (by simpa using hs)]
      by_cases hm : s ∈ (B.take n).map (·.Name)
      ·rw [if_pos hm, if_pos (List.mem_append.2 (.inl hm))]
      ·rw [if_neg hm, if_neg]
       rw [List.mem_append]
       rintro (h | h)
       ·exact hm h
       ·exact hs (by simpa using h)
    unfold Y0s.j4 Y0s.j3
    have ex : ∀ s, (∃ o ∈ B.take (n + 1), o.Name = s ∧ chg A o = true) ↔ ((∃ o ∈ B.take n, o.Name = s ∧ chg A o = true) ∨ (B[n].Name = s ∧ chg A B[n] = true)) := by
     intro s
     rw [Y1i hn]
     constructor
     ·rintro ⟨o, ho, h⟩
      rcases List.mem_append.1 ho with ho | ho
      ·exact .inl ⟨o, ho, h⟩
      ·have : o = B[n] := by simpa using ho
       rw [this] at h
       exact .inr h
     ·rintro (⟨o, ho, h⟩ | h)
      ·exact ⟨o, List.mem_append.2 (.inl ho), h⟩
      ·exact ⟨B[n], List.mem_append.2 (.inr (by simp)), h⟩
    cases hc : chg A B[n] with
    | true =>
     rw [if_pos rfl, Y13, Y2L (by rw [List.length_singleton]; omega), Option.bind_some, Y13, Y13, Y2G hn (by omega)]
     refine ⟨_, rfl, rfl, ?_, fun s => ?_, hd⟩
     ·simp only
      rw [Y1i hn, List.filter_append, h1, List.filter_cons, if_pos hc]
      rfl
     ·simp only
      rw [ex, Y36, hc]
      by_cases hs : s = B[n].Name
      ·rw [if_pos (by simp [hs])]
       exact ⟨fun _ => .inr ⟨hs.symm, rfl⟩, fun _ => rfl⟩
      ·rw [if_neg (by simpa using hs), h2]
       exact ⟨.inl, fun h => h.elim id fun h => absurd h.1.symm hs⟩
    | false =>
     rw [if_neg (by simp), Y13, Y13, Y2G hn (by omega)]
     refine ⟨_, rfl, rfl, ?_, fun s => ?_, hd⟩
     ·simp only
      rw [Y1i hn, List.filter_append, h1, List.filter_cons, if_neg (by simp [hc])]
      simp
     ·simp only
      rw [ex, h2, hc]
      exact ⟨.inl, fun h => h.elim id fun h => by cases h.2⟩
   unfold Y0s.l2
   simp only [Y1k hn, if_true, Y1a hn, Option.bind_some, Y13, hlk]
   cases hg : get ON_ A B[n].Name with
   | none =>
    have hc : chg A B[n] = true := by unfold chg; rw [hg]; simp
    rw [hc] at j4
    rw [if_pos (by simp)]
    exact j4
   | some w =>
    rw [if_neg (by simp), Option.getD_some, Y8K _ (ga.go w (Y5f hg)), Option.bind_some]
    have hc : chg A B[n] = !decide (w = B[n]) := by
     unfold chg
     rw [hg]
     congr 1
     exact decide_eq_decide.2 ⟨fun h => Option.some.inj h, fun h => by rw [h]⟩
    rw [← hc]
    exact j4
  ·rintro ⟨nm, m, l, i⟩ ⟨hi, h1, h2, h3, h4⟩
   simp only at hi h1 h2 h3 h4
   subst hi
   unfold Y0s.l2
   simp only [Y16, Bool.false_eq_true, if_false]
   rw [List.take_length] at h1 h2 h4
   exact ⟨(nm, m, l), rfl, h1, h2, h3, h4⟩
 obtain ⟨⟨nm, m, l⟩, e2, f1, f2, f3, f4⟩ := k2
 simp only at f1 f2 f3 f4
 rw [e2, Option.bind_some]
 simp only
 unfold Y0s.j2
 refine ⟨fun s => if s ∈ m.map (·.1) then some true else nm.lookup s, ?_, fun s => ?_⟩
 ·refine permI fun τ hτ => ?_
  have e3 : Y4H (fun p : (List UInt8) × Y06 => Y0s.l1 p.1 p.2) τ nm = some (.inl (τ.foldl (fun m p => mset m p.1 true) nm)) := Y7d (fun p s => rfl) τ nm
  rw [e3, Option.bind_some]
  show Y0s.j1 l (τ.foldl (fun m p => mset m p.1 true) nm) = _
  unfold Y0s.j1
  rw [f1]
  congr 2
  funext s
  rw [Y8P]
  have : (s ∈ τ.map (·.1)) ↔ (s ∈ m.map (·.1)) := (hτ.map (·.1)).mem_iff
  by_cases h : s ∈ m.map (·.1)
  ·rw [if_pos h, if_pos (this.2 h)]
  ·rw [if_neg h, if_neg (fun h' => h (this.1 h'))]
 ·have hm : s ∈ m.map (·.1) ↔ (get ON_ A s ≠ none ∧ s ∉ B.map (·.Name)) := by
   constructor
   ·intro h
    obtain ⟨p, hp, rfl⟩ := List.mem_map.1 h
    have := Y3M f3 p hp
    rw [f4] at this
    split at this
    ·cases this
    ·rename_i hn
     exact ⟨by rw [this]; simp, hn⟩
   ·rintro ⟨h1, h2⟩
    have := f4 s
    rw [if_neg h2] at this
    cases hg : get ON_ A s with
    | none => exact absurd hg h1
    | some w =>
     rw [hg] at this
     exact List.mem_map.2 ⟨(s, w), Y4G this, rfl⟩
  show ((if s ∈ m.map (·.1) then some true else nm.lookup s).getD false = true) ↔ _
  by_cases h : s ∈ m.map (·.1)
  ·rw [if_pos h]
   exact ⟨fun _ => .inr (hm.1 h), fun _ => rfl⟩
  ·rw [if_neg h, f2]
   exact ⟨.inl, fun h' => h'.elim id fun h' => absurd (hm.2 h') h⟩
end
section
open Go Go.Proofs.YtpfgdjfiimknlaaGreatL
def Y4w (φ : List UInt8 → Option Bool) (es : List Y0c) : List Y0r := es.flatMap fun e => (e.Objects.filter fun s => !(φ s).getD false).map fun s => ⟨e.Key, s⟩
theorem Y9r {φ : List UInt8 → Option Bool} {es : List Y0c} {p : Y0r} : p ∈ Y4w φ es ↔ ∃ e ∈ es, e.Key = p.f_key ∧ p.f_object ∈ e.Objects ∧ (φ p.f_object).getD false = false := by
 unfold Y4w
 rw [List.mem_flatMap]
 constructor
 ·rintro ⟨e, he, hp⟩
  obtain ⟨s, hs, rfl⟩ := List.mem_map.1 hp
  rw [List.mem_filter] at hs
  exact ⟨e, he, rfl, hs.1, by simpa using hs.2⟩
 ·rintro ⟨e, he, hk, hs, hf⟩
  refine ⟨e, he, List.mem_map.2 ⟨p.f_object, List.mem_filter.2 ⟨hs, by simp [hf]⟩, ?_⟩⟩
  rw [hk]
theorem Y4e {φ : List UInt8 → Option Bool} : ∀ {es : List Y0c}, (∀ e ∈ es, e.Objects.length ≤ 10000) → (Y4w φ es).length ≤ 10000 * es.length
 | [], _ => Nat.zero_le _
 | e :: es, h => by
  have h1 := h e (by simp)
  have h2 := Y4e (φ := φ) (es := es) fun q hq => h q (by simp [hq])
  have h3 := List.length_filter_le (fun s => !(φ s).getD false) e.Objects
  unfold Y4w at h2 ⊢
  rw [List.flatMap_cons, List.length_append, List.length_map, List.length_cons]
  omega
theorem Y8V (φ : List UInt8 → Option Bool) (es : List Y0c) (e : Y0c) : Y4w φ (es ++ [e]) = Y4w φ es ++ (e.Objects.filter fun s => !(φ s).getD false).map fun s => ⟨e.Key, s⟩ := by
 unfold Y4w
 rw [List.flatMap_append, List.flatMap_cons, List.flatMap_nil, List.append_nil]
theorem Y9q {f : Y0l} {es : List Y0c} {φ : List UInt8 → Option Bool} {l0 : List Y0r} (hb : EB es) (h0 : l0.length ≤ 10000) : Y19 (Y0z.l2 ⟨f, es⟩ φ) (l0, 0) = some (l0 ++ Y4w φ es) := by
 have hl := hb.len
 have := Y2Y (step := Y0z.l2 ⟨f, es⟩ φ) (fun k => (l0 ++ Y4w φ (es.take k), (k : Int))) es.length (b := l0 ++ Y4w φ es) (fun k hk => ?_) ?_
 ·have this : Y19 (Y0z.l2 ⟨f, es⟩ φ) (l0 ++ [], 0) = some (l0 ++ Y4w φ es) := this
  rw [List.append_nil] at this
  exact this
 ·have ho := hb.olen _ (List.getElem_mem hk)
  have hkl : (Y4w φ (es.take k)).length ≤ 10000 * 10000 := by
   have := Y4e (φ := φ) (es := es.take k) fun e he => hb.olen e (List.mem_of_mem_take he)
   rw [List.length_take] at this
   omega
  unfold Y0z.l2
  simp only [Y1k hk, if_true, Y1a hk, Option.bind_some]
  have inner := Y2Y (step := Y0z.l1 φ es[k]) (fun j => (l0 ++ Y4w φ (es.take k) ++ ((es[k].Objects.take j).filter fun s => !(φ s).getD false).map fun s => ⟨es[k].Key, s⟩, (j : Int))) es[k].Objects.length (b := l0 ++ Y4w φ (es.take k) ++ (es[k].Objects.filter fun s => !(φ s).getD false).map fun s => ⟨es[k].Key, s⟩) (fun j hj => ?_) ?_
  ·have inner : Y19 (Y0z.l1 φ es[k]) (l0 ++ Y4w φ (es.take k) ++ [], 0) = _ := inner
   rw [List.append_nil] at inner
   rw [inner, Option.bind_some]
   unfold Y0z.j2
   rw [Y13, Y2G hk (by omega), Y1i hk, Y8V, ← List.append_assoc]
  ·unfold Y0z.l1
   simp only [Y1k hj, if_true, Y1a hj, Option.bind_some, Y13]
   have hfl := List.length_filter_le (fun s => !(φ s).getD false) (es[k].Objects.take j)
   rw [List.length_take] at hfl
   unfold Y0z.j3
   rw [Y1i hj, List.filter_append, List.filter_cons]
   cases hc : (φ es[k].Objects[j]).getD false with
   | true =>
    rw [if_neg (by simp), Y13, Y2G hj (by omega), if_neg (by simp)]
    simp
   | false =>
    rw [if_pos (by simp), Y2L (by simp only [List.length_append, List.length_map, List.length_singleton]; omega), Option.bind_some, Y13, Y2G hj (by omega), if_pos (by simp), List.map_append, List.append_assoc]
    rfl
  ·unfold Y0z.l1
   simp only [Y16, Bool.false_eq_true, if_false, List.take_length]
 ·unfold Y0z.l2
  simp only [Y16, Bool.false_eq_true, if_false, List.take_length]
theorem Y6s {f : Y0l} {A B : List Y06} (ga : GD 100 A) (gb : GD 100 B) {es : List Y0c} (h : GX (PB f A) es) : ∃ es', Y0z ⟨f, es⟩ ⟨A⟩ ⟨B⟩ = some ⟨f, es'⟩ ∧ GX (PB f B) es' := by
 unfold Y0z
 obtain ⟨φ, e1, hφ⟩ := Y92 ga gb
 have hel := h.len
 have hfl := List.length_filter_le (chg A) B
 have hbl := gb.len
 have hgo : ∀ o ∈ B.filter (chg A), GO o := fun o ho => gb.go o (List.mem_filter.1 ho).1
 have hpl := Y39 (f := f) hgo
 have hkl := Y4e (φ := φ) h.olen
 rw [e1, Option.bind_some]
 simp only
 rw [Y86 hgo (by omega), Option.bind_some, Y9q h.eb (by omega), Option.bind_some]
 unfold Y0z.j1
 obtain ⟨es', e2, e3, _, _⟩ := Y6p (f := f) (l := Y2A f (B.filter (chg A)) ++ Y4w φ es) (by rw [List.length_append]; omega)
 rw [e2, Option.bind_some]
 have e4 : IsIx (PB f B) es' := by
  refine e3.congr fun k s => ?_
  rw [List.mem_append, Y5G, Y9r]
  constructor
  ·rintro (⟨o, ho, hn, hk⟩ | ⟨e, he, hk, hs, hf⟩)
   ·exact ⟨o, (List.mem_filter.1 ho).1, hn, hk⟩
   ·obtain ⟨o, ho, hn, hk2⟩ := (h.ix.obj he s).1 hs
    have hno : ¬ ((∃ o ∈ B, o.Name = s ∧ chg A o = true) ∨ (get ON_ A s ≠ none ∧ s ∉ B.map (·.Name))) := by
     rw [← hφ s, hf]
     simp
    have hg : get ON_ A s = some o := by rw [← hn]; exact Y3A ga.asc ho
    have hin : s ∈ B.map (·.Name) := Classical.byContradiction fun hc => hno (.inr ⟨by rw [hg]; simp, hc⟩)
    obtain ⟨o', ho', hn'⟩ := List.mem_map.1 hin
    have hn' : o'.Name = s := hn'
    have hc : chg A o' = false := by
     cases hc : chg A o' with
     | false => rfl
     | true => exact absurd (.inl ⟨o', ho', hn', hc⟩) hno
    unfold chg at hc
    have hc : get ON_ A o'.Name = some o' := by simpa using hc
    rw [hn', hg] at hc
    have : o = o' := Option.some.inj hc
    subst this
    have hk : e.Key = k := hk
    exact ⟨o, ho', hn, by rw [← hk]; exact hk2⟩
  ·rintro ⟨o, ho, hn, hk⟩
   cases hc : chg A o with
   | true => exact .inl ⟨o, List.mem_filter.2 ⟨ho, hc⟩, hn, hk⟩
   | false =>
    unfold chg at hc
    have hc : get ON_ A o.Name = some o := by simpa using hc
    obtain ⟨e, he, hke, hs⟩ := (h.ix.mem k s).2 ⟨o, Y5f hc, hn, hk⟩
    refine .inr ⟨e, he, hke, hs, ?_⟩
    cases hf : (φ s).getD false with
    | false => rfl
    | true =>
     rcases (hφ s).1 hf with ⟨o2, ho2, hn2, hc2⟩ | ⟨_, hnb⟩
     ·have h1 := Y3A gb.asc ho
      have h2 := Y3A gb.asc ho2
      rw [show ON_ o2 = ON_ o from hn2.trans hn.symm, h1] at h2
      have : o = o2 := Option.some.inj h2
      subst this
      unfold chg at hc2
      rw [hc] at hc2
      simp at hc2
     ·exact absurd (List.mem_map.2 ⟨o, ho, hn⟩) hnb
 obtain ⟨eb, _, b2⟩ := Y58 f gb.go gb.len
 have : es' = eb := e4.uniq b2.ix
 subst this
 exact ⟨es', rfl, b2⟩
theorem Y5e (x1 x4 : List Int) (x7 x8 x9 : Int) : Y0X x1 x4 x7 x8 x9 = some true := by
 unfold Y0X
 obtain ⟨s, e1, h1⟩ := Y6q x1
 obtain ⟨p, e2⟩ := Y9M h1 x8
 obtain ⟨q, e3⟩ := Y9M h1 x9
 obtain ⟨e4, ga⟩ := Y5N (US_sub h1 (List.filter_sublist (p := p)))
 obtain ⟨e5, gb⟩ := Y5N (US_sub h1 (List.filter_sublist (p := q)))
 obtain ⟨t, e6, h6⟩ := Y6q x4
 obtain ⟨e7, gc⟩ := Y5N h6
 obtain ⟨f, e8⟩ := field_ex x7
 rw [e1, Option.bind_some, e2, Option.bind_some, e4, Option.bind_some, e3, Option.bind_some, e5, Option.bind_some, e6, Option.bind_some, e7, Option.bind_some, e8, Option.bind_some]
 obtain ⟨A, hA⟩ : ∃ A, A = Y5Z (s.filter p) [] := ⟨_, rfl⟩
 obtain ⟨B, hB⟩ : ∃ B, B = Y5Z (s.filter q) [] := ⟨_, rfl⟩
 obtain ⟨C, hC⟩ : ∃ C, C = Y5Z t [] := ⟨_, rfl⟩
 rw [← hA] at ga ⊢
 rw [← hB] at gb ⊢
 rw [← hC] at gc ⊢
 obtain ⟨ea, b1, b2⟩ := Y58 f ga.go ga.len
 obtain ⟨eb, b3, b4⟩ := Y6s ga gb b2
 obtain ⟨ec, b5, b6⟩ := Y6s gb gc b4
 obtain ⟨eb', c1, c2⟩ := Y70 f gb.go gb.asc gb.len
 obtain ⟨ec', c3, c4⟩ := Y70 f gc.go gc.asc gc.len
 obtain ⟨eb2, c5, c6⟩ := Y58 f gb.go gb.len
 obtain ⟨ec2, c7, c8⟩ := Y58 f gc.go gc.len
 have : eb' = eb := c2.uniq b4.ix
 subst this
 have : ec' = ec := c4.uniq b6.ix
 subst this
 have : eb2 = eb' := c6.uniq b4
 subst this
 have : ec2 = ec' := c8.uniq b6
 subst this
 have sm : ∀ {P : Y05 → List UInt8 → Prop} {es : List Y0c}, GX P es → Y0L es (es.map ke) = some true := by
  intro P es g
  rw [same_eq (by have := g.len; omega) (fun e he => by have := g.olen e he; omega)]
  simp
 have eq : ∀ {P : Y05 → List UInt8 → Prop} {es : List Y0c}, GX P es → Y0W ⟨f, es⟩ ⟨f, es⟩ = some true := by
  intro P es g
  rw [Y9U g.eb]
  simp
 rw [b1, Option.bind_some, b3, Option.bind_some, b5, Option.bind_some, c1, Option.bind_some]
 show (Y0L eb2 (eb2.map ke)).bind _ = _
 rw [sm b4, Option.bind_some, if_pos rfl, c5, Option.bind_some, eq b4, Option.bind_some, if_pos rfl, c3, Option.bind_some]
 show (Y0L ec2 (ec2.map ke)).bind _ = _
 rw [sm b6, Option.bind_some, if_pos rfl, c7, Option.bind_some]
 show (Y0W ⟨f, ec2⟩ ⟨f, ec2⟩).bind _ = _
 rw [eq b6, Option.bind_some, if_pos rfl, Y94]
 rfl
end
end Go.Proofs.YtpfgdjfiimknlaaGreat
