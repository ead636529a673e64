/- quorum.grid: what it answers. -/
import Derived.Test.YtodebgfppmcjlaaFi
set_option linter.unusedVariables false
set_option linter.unusedSimpArgs false
namespace Go.Proofs.Ytodebgfppmcjlaa
open Go Go.RowKit Go.Shelf Go.Proofs.YtodebgfppmcjlaaL
attribute [local go_sem] Oper.semAt_some

def fullC (xs : List Bool) (c k : Nat) : Bool := (chk xs c k).count true == (chk xs c k).length
theorem gridF_step (xs : List Bool) (f c k : Nat) (w : Bool) (hk : k < xs.length) :
    gridF (f + 1) c (xs.drop k) w = if (chk xs c k).count true = 0 then false else gridF f c (xs.drop (k + c)) (w || fullC xs c k) := by
  rw [gridF, if_neg (by simp; omega), List.drop_drop]
  rfl
theorem gridF_end (xs : List Bool) (f c k : Nat) (w : Bool) (hk : xs.length ≤ k) : gridF f c (xs.drop k) w = w := by
  rw [List.drop_of_length_le hk]
  cases f with
  | zero => rfl
  | succ f => rw [gridF, if_pos rfl]
theorem gridF_zero (xs : List Bool) (c : Nat) (hc : 0 < c) : ∀ (f k : Nat) (w : Bool), c ∣ k → xs.length ≤ k + f → (∃ x : Chs c xs.length, k ≤ x.1 ∧ (chk xs c x.1).count true = 0) → gridF f c (xs.drop k) w = false
  | 0, k, w, _, hf, ⟨x, hx, _⟩ => by have := x.2.1; omega
  | f + 1, k, w, hk, hf, ⟨x, hx, hz⟩ => by
    have hlt := x.2.1
    rw [gridF_step _ _ _ _ _ (by omega)]
    by_cases h0 : (chk xs c k).count true = 0
    · rw [if_pos h0]
    · rw [if_neg h0]
      refine gridF_zero xs c hc f (k + c) _ (Nat.dvd_add hk (Nat.dvd_refl c)) (by omega) ⟨x, ?_, hz⟩
      have hne : x.1 ≠ k := fun e => h0 (e ▸ hz)
      obtain ⟨a, ha⟩ := hk
      obtain ⟨b, hb⟩ := x.2.2
      have h1 : a < b := by
        have : c * a < c * b := by omega
        exact Nat.lt_of_mul_lt_mul_left this
      have := Nat.mul_le_mul_left c (show a + 1 ≤ b from h1)
      rw [Nat.mul_add, Nat.mul_one] at this
      omega
theorem gridF_all (xs : List Bool) (c : Nat) (hc : 0 < c) (hall : ∀ x : Chs c xs.length, (chk xs c x.1).count true ≠ 0) : ∀ (f k : Nat) (w : Bool), c ∣ k → xs.length ≤ k + f → (gridF f c (xs.drop k) w = true ↔ w = true ∨ ∃ x : Chs c xs.length, k ≤ x.1 ∧ fullC xs c x.1 = true)
  | f, k, w, hk, hf => by
    rcases Nat.lt_or_ge k xs.length with hlt | hge
    · match f, hf with
      | 0, hf => omega
      | f + 1, hf =>
        rw [gridF_step _ _ _ _ _ hlt, if_neg (hall ⟨k, hlt, hk⟩), gridF_all xs c hc hall f (k + c) _ (Nat.dvd_add hk (Nat.dvd_refl c)) (by omega), Bool.or_eq_true]
        constructor
        · rintro ((h | h) | ⟨x, hx, h⟩)
          · exact .inl h
          · exact .inr ⟨⟨k, hlt, hk⟩, Nat.le_refl _, h⟩
          · exact .inr ⟨x, by omega, h⟩
        · rintro (h | ⟨x, hx, h⟩)
          · exact .inl (.inl h)
          · by_cases e : x.1 = k
            · exact .inl (.inr (e ▸ h))
            · refine .inr ⟨x, ?_, h⟩
              obtain ⟨a, ha⟩ := hk
              obtain ⟨b, hb⟩ := x.2.2
              have h1 : a < b := by
                have : c * a < c * b := by omega
                exact Nat.lt_of_mul_lt_mul_left this
              have := Nat.mul_le_mul_left c (show a + 1 ≤ b from h1)
              rw [Nat.mul_add, Nat.mul_one] at this
              omega
    · rw [gridF_end xs f c k w hge]
      constructor
      · exact .inl
      · rintro (h | ⟨x, hx, _⟩)
        · exact h
        · have := x.2.1
          omega
theorem mem_upC (c len : Nat) (hc : 0 < c) (m : Nat) (h : (m - 1) * c < len ∨ m = 0) (x : Chs c len) (hx : x.1 < m * c) : x ∈ upC c len hc m h := by
  induction m with
  | zero => omega
  | succ m ih =>
    rw [upC, List.mem_append]
    rcases Nat.lt_or_ge x.1 (m * c) with h1 | h1
    · exact .inl (ih _ h1)
    · right
      obtain ⟨b, hb⟩ := x.2.2
      have h2 : b < m + 1 := by
        have : c * b < c * (m + 1) := by rw [Nat.mul_comm c (m + 1)]; omega
        exact Nat.lt_of_mul_lt_mul_left this
      have h3 : m ≤ b := by
        have : c * m ≤ c * b := by rw [Nat.mul_comm c m]; omega
        exact Nat.le_of_mul_le_mul_left this hc
      have h4 : b = m := by omega
      refine List.mem_singleton.2 (Subtype.ext ?_)
      rw [hb, h4, Nat.mul_comm]
theorem grid_val (xs : List Bool) (c : Nat) (hc : 0 < c) (ys : List (Chs c xs.length)) (e : Bool)
    (h : ((∃ m h, xs.length ≤ m * c ∧ ys = upC c xs.length hc m h) ∧ (∀ x ∈ ys, (chk xs c x.1).count true ≠ 0) ∧ e = wholeC xs c ys) ∨ ((∃ x ∈ ys, (chk xs c x.1).count true = 0) ∧ e = false)) :
    e = gridF xs.length c xs false := by
  have e0 : xs = xs.drop 0 := rfl
  rcases h with ⟨⟨m, h, hm, rfl⟩, hall, rfl⟩ | ⟨⟨x, _, hx⟩, rfl⟩
  · have hmem : ∀ x : Chs c xs.length, x ∈ upC c xs.length hc m h := fun x => mem_upC _ _ _ _ _ _ (by have := x.2.1; omega)
    have h2 := gridF_all xs c hc (fun x => hall x (hmem x)) xs.length 0 false (Nat.dvd_zero c) (by omega)
    rw [← e0] at h2
    rw [Bool.eq_iff_iff, h2]
    simp only [wholeC, List.any_eq_true]
    constructor
    · rintro ⟨x, _, hx⟩
      exact .inr ⟨x, Nat.zero_le _, hx⟩
    · rintro (h | ⟨x, _, hx⟩)
      · cases h
      · exact ⟨x, hmem x, hx⟩
  · have := gridF_zero xs c hc xs.length 0 false (Nat.dvd_zero c) (by omega) ⟨x, Nat.zero_le _, hx⟩
    rw [← e0] at this
    exact this.symm
set_option maxRecDepth 100000 in
set_option maxHeartbeats 1000000 in
theorem grid_neg (x1 : Int) (h : x1 < 1) (a : Option Addr) (n c : Nat) (w : World) : CallsIn Fence.wide 8 Try.prog 49 #[.int .i64 x1, .slice a n c] w fun e W' => e = .returned (.bool false) ∧ Below w.heap.size w W' := by
  refine callsIn_of_wp Try.func49 rfl trivial ?_ rfl
  simp only [Try.ntmps49, List.size_toArray, List.length_cons, List.length_nil, Nat.reduceAdd, Nat.reduceSub, Array.replicate_succ, Array.replicate_zero, List.push_toArray, List.append_toArray, List.nil_append, List.cons_append]
  have hs := cnl w (.bool false) 4
  gi_wp2
  refine bodyPost_ret (v := .bool false) (by simp [results, Try.f49, go_sem, hs.1]) rfl ?_
  exact ⟨rfl, (Below.refl _ w).alloc (Nat.le_refl _) _⟩
set_option maxRecDepth 100000 in
set_option maxHeartbeats 4000000 in
theorem grid_none (a : Option Addr) (cap c : Nat) (hc0 : 0 < c) (w : World) :
    CallsIn Fence.wide 8 Try.prog 49 #[.int .i64 c, .slice a 0 cap] w fun e W' => e = .returned (.bool false) ∧ Below w.heap.size w W' := by
  refine callsIn_of_wp_marks Try.func49 rfl trivial ?_ rfl
  simp only [Try.ntmps49, List.size_toArray, List.length_cons, List.length_nil, Nat.reduceAdd, Nat.reduceSub, Array.replicate_succ, Array.replicate_zero, List.push_toArray, List.append_toArray, List.nil_append, List.cons_append]
  gi_wp2_with (refine ⟨trivial, ?_⟩; gi_at_call 54; refine (chunk_in Fence.wide _ trivial rfl _ _ _ c hc0 _).mono ?_; rintro e w' ⟨rfl, rfl⟩)
  have hs := cnl w (.bool false) 4
  have ht := cnl (w.alloc (.cells #[.bool false] 4)) (.bool false) 4
  have hbs := cnl ((w.alloc (.cells #[.bool false] 4)).alloc (.cells #[.bool false] 4)) (.slice a 0 cap) 52
  simp only [World.size_alloc] at ht hbs
  obtain ⟨w4, hw4⟩ : ∃ w4, ((((w.alloc (.cells #[.bool false] 4)).alloc (.cells #[.bool false] 4)).alloc (.cells #[.slice a 0 cap] 52)).alloc (.cells #[.int .i64 c] 3)) = w4 := ⟨_, rfl⟩
  have hB0 : Below w.heap.size w w4 := by
    rw [← hw4]
    exact ((((Below.refl _ w).alloc (Nat.le_refl _) _).alloc (by simp) _).alloc (by simp; omega) _).alloc (by simp; omega) _
  have hz4 : w4.heap.size = w.heap.size + 4 := by rw [← hw4]; simp
  have c0 : w4.cell? ⟨w.heap.size, 0, none⟩ = some (.bool false) ∧ w4.frozen? ⟨w.heap.size, 0, none⟩ = false := by
    rw [← hw4]
    exact ⟨cal _ (cal _ (cal _ hs.1)), fal _ (cal _ (cal _ hs.1)) (fal _ (cal _ hs.1) (fal _ hs.1 hs.2))⟩
  have c1 : w4.cell? ⟨w.heap.size + 1, 0, none⟩ = some (.bool false) ∧ w4.frozen? ⟨w.heap.size + 1, 0, none⟩ = false := by
    rw [← hw4]
    exact ⟨cal _ (cal _ ht.1), fal _ (cal _ ht.1) (fal _ ht.1 ht.2)⟩
  have c2 : w4.cell? ⟨w.heap.size + 1 + 1, 0, none⟩ = some (.slice a 0 cap) := by
    rw [← hw4]
    exact cal _ hbs.1
  rw [hw4]
  have hstops : SeqStopsK Fence.wide 7 Try.prog 68 #[.pointer (some ⟨w.heap.size + 1 + 1, 0, none⟩), .pointer (some ⟨w.heap.size + 1 + 1 + 1, 0, none⟩)] (fun x : Empty => #[undef]) (Kq (w.heap.size + 1 + 1) (w.heap.size + 1 + 1 + 1))
      (fun ys => ys = []) (fun pre => False) 0 w4 := by
    intro l J Jx W hW hJ hJx hY h0
    refine (chunk0_in Fence.wide 7 trivial rfl l (w.heap.size + 1 + 1) (w.heap.size + 1 + 1 + 1) a cap c (J []) W ((hW.cell (p := ⟨w.heap.size + 1 + 1, 0, none⟩) (show w.heap.size + 1 + 1 < w4.heap.size by omega)).trans c2) h0).mono ?_
    rintro e W' ⟨he, hj⟩
    exact ⟨he, .inl ⟨_, rfl, hj⟩⟩
  refine wpIn_rangeFunc_ownF rfl (by omega) (gf := 68) (lb := #[.pointer (some ⟨w.heap.size + 1 + 1, 0, none⟩), .pointer (some ⟨w.heap.size + 1 + 1 + 1, 0, none⟩)]) rfl trivial (enters_of Try.func68 (by kernel_rfl) rfl)
    hstops (fun h k => h.trans k) (fun W l o o' hl ho _ _ => ?kb) (Below.refl _ _) (fun _ => rfl)
    (fun pre W => ((W.cell? ⟨w.heap.size, 0, none⟩ = some (.bool false) ∧ W.frozen? ⟨w.heap.size, 0, none⟩ = false) ∧ (W.cell? ⟨w.heap.size + 1, 0, none⟩ = some (.bool false) ∧ W.frozen? ⟨w.heap.size + 1, 0, none⟩ = false)) ∧ Below w.heap.size w W)
    (fun k pre W => False)
    (OwnFrom.and (Own.from (fun s A B row hs hg hr => ⟨⟨cell_kept hs.1.1 hg hr, (frozen_kept hs.1.1 hg hr).trans hs.1.2⟩, ⟨cell_kept hs.2.1 hg hr, (frozen_kept hs.2.1 hg hr).trans hs.2.2⟩⟩) _) (ownFrom_below (Nat.le_refl _) (by omega)))
    (fun _ _ _ _ _ hs _ _ => hs)
    ⟨⟨c0, c1⟩, hB0⟩
    (fun x => x.elim) ?assign ?body ?done ?stop
  case kb =>
    have hg := grownBy_putObj' W l o'
    have hlt := (Array.getElem?_eq_some_iff.1 ho).1
    exact ⟨hg.size, World.cell?_of_block (hg.block _ (show w.heap.size + 1 + 1 < _ by omega) (by simp; omega)), World.cell?_of_block (hg.block _ (show w.heap.size + 1 + 1 + 1 < _ by omega) (by simp; omega))⟩
  case assign =>
    intro l x
    exact x.elim
  case body =>
    rintro l pre x
    exact x.elim
  case done =>
    rintro D ys W hD rfl ⟨⟨⟨hc, hf⟩, ⟨hc2, hf2⟩⟩, hB⟩ hK
    gi_wp2
    have hK' := (KeepsOthers.setCell W ⟨w.heap.size, 0, none⟩ (.bool false)).same D _ hK rfl
    refine ⟨by simp, .inl ⟨_, _, rfl, run_takeDeferred hK', ?_⟩⟩
    have hc5 := cell_kept (World.cell?_setCell_same' W ⟨w.heap.size, 0, none⟩ (.bool false) (by rw [hc]; rfl)) (grownBy_putObj' _ D (.deferred none)) (fun r e => by cases e; exact ⟨_, hK', rfl⟩)
    refine ⟨.bool false, ?_, rfl, (hB.setCell (p := ⟨w.heap.size, 0, none⟩) (Nat.le_refl _) _).trans (belowK_b (w := w) (Nat.le_refl _) _ D _ _ (by omega) hK' rfl rfl)⟩
    simp [results, Try.f49, go_sem, hc5]
  case stop =>
    rintro D k pre W hD h
    exact h.elim
theorem quorum_grid.calls {ok : Nat → Prop} {w0 : World} {x1 : Int} {x2 : List Bool} {a2 : Option Addr} {c3 : Nat} {r : Bool} (hf : quorum_grid x1 x2 = some r) (i0 : (vl (tSlice tBool) x2 (.slice a2 x2.length c3)).holds ok w0) :
    Calls Try.prog 49 #[.int .i64 x1, .slice a2 x2.length c3] w0 fun e w' => ∃ v, e = .returned v ∧ ∃ y : Unit, v = .bool r ∧ St ok (bz w0) w' [] [] := by
  obtain ⟨⟨h1, h2⟩, h3⟩ := guardE hf
  have hr := Option.some.inj h3
  have hs : St ok (bz w0) w0 [] [] := St.init All.nil
  by_cases hx : x1 < 1
  · refine (callsIn_wide.1 (grid_neg x1 hx a2 x2.length c3 w0)).mono ?_
    rintro e w' ⟨rfl, hB⟩
    exact ⟨_, rfl, (), by rw [← hr, if_pos hx], hs.below hB⟩
  · rw [if_neg hx] at hr
    obtain ⟨c, rfl⟩ : ∃ c : Nat, x1 = c := ⟨x1.toNat, by omega⟩
    rw [Int.toNat_natCast] at hr
    have hc0 : 0 < c := by omega
    obtain ⟨a', c', e, hle, hrow⟩ := tSlice_V.1 i0
    cases e
    rcases Nat.eq_zero_or_pos x2.length with hz | hz
    · have hn : x2 = [] := List.length_eq_zero_iff.1 hz
      subst hn
      refine (callsIn_wide.1 (grid_none a2 c3 c hc0 w0)).mono ?_
      rintro e w' ⟨rfl, hB⟩
      exact ⟨_, rfl, (), by rw [← hr]; rfl, hs.below hB⟩
    · rcases hrow with rfl | ⟨g, off, rfl, hok, hlt, hcell⟩
      · simp at hz
      · refine (callsIn_wide.1 (grid_in x2 g off c3 c w0 hc0 (by omega) h1 hz hle (fun j x hj => ?_) hlt)).mono ?_
        · obtain ⟨cs, hR, hcs⟩ := hcell j x hj
          have hR : cs = [.bool x] := hR
          subst hR
          have := hcs 0 (.bool x) rfl
          rw [show off + j * tBool.sz + 0 = off + j by show off + j * 1 + 0 = _; omega] at this
          exact this
        · rintro e w' ⟨⟨ys, h⟩, hB⟩
          rcases h with ⟨hm, hall, rfl⟩ | ⟨_, hex, rfl⟩
          · refine ⟨_, rfl, (), ?_, hs.below hB⟩
            rw [← hr, grid_val x2 c hc0 ys _ (.inl ⟨hm, hall, rfl⟩)]
          · refine ⟨_, rfl, (), ?_, hs.below hB⟩
            rw [← hr, ← grid_val x2 c hc0 ys false (.inr ⟨hex, rfl⟩)]
end Go.Proofs.Ytodebgfppmcjlaa
