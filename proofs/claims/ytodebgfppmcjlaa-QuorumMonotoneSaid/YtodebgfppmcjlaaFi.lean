/- quorum.grid over the chunks. -/
import Derived.RangeFuncNested
import Derived.RangeFuncBound
import Derived.RangeFuncCalls
import Derived.Test.YtodebgfppmcjlaaFg
import Derived.Test.YtodebgfppmcjlaaFc
set_option linter.unusedVariables false
set_option linter.unusedSimpArgs false
namespace Go.Proofs.Ytodebgfppmcjlaa
open Go Go.RowKit Go.Shelf Go.Proofs.YtodebgfppmcjlaaL
attribute [local go_sem] Oper.semAt_some

theorem cnl (W : World) (v : Value) (t : TypeId) : (W.alloc (.cells #[v] t)).cell? ⟨W.heap.size, 0, none⟩ = some v ∧ (W.alloc (.cells #[v] t)).frozen? ⟨W.heap.size, 0, none⟩ = false := by
  have h := World.alloc_heap_new W (.cells #[v] t)
  refine ⟨?_, ?_⟩
  · unfold World.cell?
    dsimp only
    rw [h]
    rfl
  · unfold World.frozen?
    dsimp only
    rw [h]
    rfl
theorem cal {W : World} {a : Addr} {v : Value} (o : Obj) (h : W.cell? a = some v) : (W.alloc o).cell? a = some v := cell_kept h (World.grownBy_alloc W o none) (fun r e => by cases e)
theorem fal {W : World} {a : Addr} {v : Value} (o : Obj) (h : W.cell? a = some v) (hf : W.frozen? a = false) : (W.alloc o).frozen? a = false := (frozen_kept h (World.grownBy_alloc W o none) (fun r e => by cases e)).trans hf
theorem grownBy_drew' (W : World) : W.grownBy W.drew none := ⟨rfl, rfl, rfl, Nat.le_refl _, fun _ _ _ => rfl⟩
theorem beq_cast (a b : Nat) : ((a : Int) == (b : Int)) = (a == b) := by
  rw [Bool.eq_iff_iff]
  simp only [beq_iff_eq]
  omega
def chk (xs : List Bool) (c k : Nat) : List Bool := (xs.drop k).take c
def wholeC (xs : List Bool) (c : Nat) (pre : List (Chs c xs.length)) : Bool := pre.any fun x => (chk xs c x.1).count true == (chk xs c x.1).length
theorem wholeC_snoc (xs : List Bool) (c : Nat) (pre : List (Chs c xs.length)) (x : Chs c xs.length) : wholeC xs c (pre ++ [x]) = (wholeC xs c pre || (chk xs c x.1).count true == (chk xs c x.1).length) := by simp [wholeC]
theorem chk_row {xs : List Bool} {b off cap c k : Nat} {W : World} (hrow : ∀ (j : Nat) (x : Bool), xs[j]? = some x → W.cell? ⟨b, off + j, none⟩ = some (.bool x)) (hb : b < W.heap.size) :
    (vl (tSlice tBool) (chk xs c k) (chv b off c xs.length k)).holds (fun _ => True) W := by
  have hl : (chk xs c k).length = min c (xs.length - k) := by simp [chk]
  refine tSlice_V.2 ⟨some ⟨b, off + k, none⟩, min c (xs.length - k), by rw [hl]; rfl, Nat.le_of_eq hl, ?_⟩
  refine .inr ⟨b, off + k, rfl, trivial, hb, fun j x hj => ⟨[.bool x], rfl, fun i u hu => ?_⟩⟩
  have hj2 : xs[k + j]? = some x := by
    rw [chk, List.getElem?_take] at hj
    split at hj
    · rwa [List.getElem?_drop] at hj
    · cases hj
  match i, hu with
  | 0, hu =>
    have hu : Value.bool x = u := by simpa using hu
    subst hu
    have := hrow _ _ hj2
    show W.cell? ⟨b, off + k + j * 1 + 0, none⟩ = _
    rw [show off + k + j * 1 + 0 = off + (k + j) by omega]
    exact this
  | i + 1, hu => simp at hu
set_option maxRecDepth 100000 in
set_option maxHeartbeats 4000000 in
theorem grid_in (xs : List Bool) (b off cap c : Nat) (w : World) (hc0 : 0 < c) (hcl : c ≤ 4611686018427387904) (hlen : xs.length ≤ 140737488355328) (hne : 0 < xs.length) (hcap : xs.length ≤ cap)
    (hrow : ∀ (j : Nat) (x : Bool), xs[j]? = some x → w.cell? ⟨b, off + j, none⟩ = some (.bool x)) (hb : b < w.heap.size) :
    CallsIn Fence.wide 8 Try.prog 49 #[.int .i64 c, .slice (some ⟨b, off, none⟩) xs.length cap] w fun e W' =>
      (∃ ys : List (Chs c xs.length), (((∃ m h, xs.length ≤ m * c ∧ ys = upC c xs.length hc0 m h) ∧ (∀ x ∈ ys, (chk xs c x.1).count true ≠ 0) ∧ e = .returned (.bool (wholeC xs c ys))) ∨ ((∃ m h, ys <+: upC c xs.length hc0 m h) ∧ (∃ x ∈ ys, (chk xs c x.1).count true = 0) ∧ e = .returned (.bool false)))) ∧ Below w.heap.size w W' := by
  refine callsIn_of_wp_marks Try.func49 rfl trivial ?_ rfl
  simp only [Try.ntmps49, List.size_toArray, List.length_cons, List.length_nil, Nat.reduceAdd, Nat.reduceSub, Array.replicate_succ, Array.replicate_zero, List.push_toArray, List.append_toArray, List.nil_append, List.cons_append]
  gi_wp2_with (refine ⟨trivial, ?_⟩; gi_at_call 54; refine (chunk_in Fence.wide _ trivial rfl _ _ _ c hc0 _).mono ?_; rintro e w' ⟨rfl, rfl⟩)
  have hs := cnl w (.bool false) 4
  have ht := cnl (w.alloc (.cells #[.bool false] 4)) (.bool false) 4
  have hbs := cnl ((w.alloc (.cells #[.bool false] 4)).alloc (.cells #[.bool false] 4)) (.slice (some ⟨b, off, none⟩) xs.length cap) 52
  have hbn := cnl (((w.alloc (.cells #[.bool false] 4)).alloc (.cells #[.bool false] 4)).alloc (.cells #[.slice (some ⟨b, off, none⟩) xs.length cap] 52)) (.int .i64 c) 3
  simp only [World.size_alloc] at ht hbs hbn
  obtain ⟨w4, hw4⟩ : ∃ w4, ((((w.alloc (.cells #[.bool false] 4)).alloc (.cells #[.bool false] 4)).alloc (.cells #[.slice (some ⟨b, off, none⟩) xs.length cap] 52)).alloc (.cells #[.int .i64 c] 3)) = w4 := ⟨_, rfl⟩
  have hB0 : Below w.heap.size w w4 := by
    rw [← hw4]
    exact ((((Below.refl _ w).alloc (Nat.le_refl _) _).alloc (by simp) _).alloc (by simp; omega) _).alloc (by simp; omega) _
  have hz4 : w4.heap.size = w.heap.size + 4 := by rw [← hw4]; simp
  have c0 : w4.cell? ⟨w.heap.size, 0, none⟩ = some (.bool false) ∧ w4.frozen? ⟨w.heap.size, 0, none⟩ = false := by
    rw [← hw4]
    exact ⟨cal _ (cal _ (cal _ hs.1)), fal _ (cal _ (cal _ hs.1)) (fal _ (cal _ hs.1) (fal _ hs.1 hs.2))⟩
  have c1 : w4.cell? ⟨w.heap.size + 1, 0, none⟩ = some (.bool false) ∧ w4.frozen? ⟨w.heap.size + 1, 0, none⟩ = false := by
    rw [← hw4]
    exact ⟨cal _ (cal _ ht.1), fal _ (cal _ ht.1) (fal _ ht.1 ht.2)⟩
  have c2 : w4.cell? ⟨w.heap.size + 1 + 1, 0, none⟩ = some (.slice (some ⟨b, off, none⟩) xs.length cap) := by
    rw [← hw4]
    exact cal _ hbs.1
  have c3 : w4.cell? ⟨w.heap.size + 1 + 1 + 1, 0, none⟩ = some (.int .i64 c) := by
    rw [← hw4]
    exact hbn.1
  rw [hw4]
  have hz4' : w4.heap.size = w.heap.size + 4 := hz4
  have hstops : SeqStopsK Fence.wide 7 Try.prog 68 #[.pointer (some ⟨w.heap.size + 1 + 1, 0, none⟩), .pointer (some ⟨w.heap.size + 1 + 1 + 1, 0, none⟩)] (fun x : Chs c xs.length => #[chv b off c xs.length x.1]) (Kq (w.heap.size + 1 + 1) (w.heap.size + 1 + 1 + 1))
      (fun ys => ∃ m h, xs.length ≤ m * c ∧ ys = upC c xs.length hc0 m h) (fun pre => ∃ m h, pre = upC c xs.length hc0 m h) xs.length w4 := by
    intro l J Jx W hW hJ hJx hY h0
    have hdr : ∀ s W, J s W → J s W.drew := fun s W hs => hJ s W W.drew none hs (grownBy_drew' W) (fun r e => by cases e)
    refine (chunk1_in Fence.wide 7 trivial rfl (by omega) l (w.heap.size + 1 + 1) (w.heap.size + 1 + 1 + 1) b off xs.length cap c hc0 hcl hlen hcap J Jx hdr (fun pre x W hj hl => hY pre x W hj hl) W ((hW.cell (p := ⟨w.heap.size + 1 + 1, 0, none⟩) (show w.heap.size + 1 + 1 < w4.heap.size by omega)).trans c2) ((hW.cell (p := ⟨w.heap.size + 1 + 1 + 1, 0, none⟩) (show w.heap.size + 1 + 1 + 1 < w4.heap.size by omega)).trans c3) h0).mono ?_
    rintro e W' ⟨he, ⟨m, h, hm, hj⟩ | ⟨m, h, hj⟩⟩
    · exact ⟨he, .inl ⟨_, ⟨m, h, hm, rfl⟩, hj⟩⟩
    · exact ⟨he, .inr ⟨_, ⟨m, h, rfl⟩, hj⟩⟩
  refine wpIn_rangeFunc_ownF rfl (by omega) (gf := 68) (lb := #[.pointer (some ⟨w.heap.size + 1 + 1, 0, none⟩), .pointer (some ⟨w.heap.size + 1 + 1 + 1, 0, none⟩)]) rfl trivial (enters_of Try.func68 (by kernel_rfl) rfl)
    hstops (fun h k => h.trans k) (fun W l o o' hl ho _ _ => ?kb) (Below.refl _ _) (fun _ => rfl)
    (fun pre W => ((∀ x ∈ pre, (chk xs c x.1).count true ≠ 0) ∧ (W.cell? ⟨w.heap.size, 0, none⟩ = some (.bool false) ∧ W.frozen? ⟨w.heap.size, 0, none⟩ = false) ∧ (W.cell? ⟨w.heap.size + 1, 0, none⟩ = some (.bool (wholeC xs c pre)) ∧ W.frozen? ⟨w.heap.size + 1, 0, none⟩ = false)) ∧ Below w.heap.size w W)
    (fun k pre W => (k = .ret ∧ (∃ x ∈ pre, (chk xs c x.1).count true = 0) ∧ W.cell? ⟨w.heap.size, 0, none⟩ = some (.bool false)) ∧ Below w.heap.size w W)
    (OwnFrom.and (Own.from (fun s A B row hs hg hr => ⟨hs.1, ⟨cell_kept hs.2.1.1 hg hr, (frozen_kept hs.2.1.1 hg hr).trans hs.2.1.2⟩, ⟨cell_kept hs.2.2.1 hg hr, (frozen_kept hs.2.2.1 hg hr).trans hs.2.2.2⟩⟩) _) (ownFrom_below (Nat.le_refl _) (by omega)))
    (fun k => OwnFrom.and (Own.from (fun s A B row hs hg hr => ⟨hs.1, hs.2.1, cell_kept hs.2.2 hg hr⟩) _) (ownFrom_below (Nat.le_refl _) (by omega)))
    ⟨⟨by simp, c0, c1⟩, hB0⟩
    (fun x => { tmps := #[.int .i64 c, .slice (some ⟨b, off, none⟩) xs.length cap, undef, undef, .pointer (some ⟨w.heap.size, 0, none⟩), .pointer (some ⟨w.heap.size + 1, 0, none⟩), chv b off c xs.length x.1, undef, .int .i64 c, .bool (decide ((c : Int) < 1)), .slice (some ⟨b, off, none⟩) xs.length cap, .int .i64 c,
      .func (.func 68) #[] #[.pointer (some ⟨w.heap.size + 1 + 1, 0, none⟩), .pointer (some ⟨w.heap.size + 1 + 1 + 1, 0, none⟩)], chv b off c xs.length x.1, undef, undef, undef, undef, undef, undef, undef, undef, undef, undef, undef, undef], defers := [] }) ?assign ?body ?done ?stop
  case kb =>
    have hg := grownBy_putObj' W l o'
    have hlt := (Array.getElem?_eq_some_iff.1 ho).1
    exact ⟨hg.size, World.cell?_of_block (hg.block _ (show w.heap.size + 1 + 1 < _ by omega) (by simp; omega)), World.cell?_of_block (hg.block _ (show w.heap.size + 1 + 1 + 1 < _ by omega) (by simp; omega))⟩
  case assign =>
    intro l x W K hK
    gi_wp2
    exact hK
  case body =>
    rintro l pre x W ⟨⟨hp, ⟨hc, hf⟩, ⟨hc2, hf2⟩⟩, hB⟩ _
    have hcnt : Calls Try.prog 47 #[chv b off c xs.length x.1] W fun e w' => e = .returned (.int .i64 (((chk xs c x.1).count true : Nat) : Int)) ∧ w' = W := by
      have hl : (chk xs c x.1).length = min c (xs.length - x.1) := by simp [chk]
      have e : chv b off c xs.length x.1 = .slice (some ⟨b, off + x.1, none⟩) (chk xs c x.1).length (min c (xs.length - x.1)) := by rw [hl]; rfl
      have hr := chk_row (k := x.1) (c := c) (xs := xs) (b := b) (off := off) (cap := cap) (W := W) (fun j y hj => (hB.cell (p := ⟨b, off + j, none⟩) hb).trans (hrow j y hj)) (Nat.lt_of_lt_of_le hb hB.size)
      rw [e] at hr ⊢
      refine (count_q (count_eq _ (by omega)) hr).mono ?_
      rintro e w' ⟨v, rfl, rfl, rfl⟩
      exact ⟨rfl, rfl⟩
    simp only [chv] at hcnt ⊢
    have hcl2 : (chk xs c x.1).length = min c (xs.length - x.1) := by simp [chk]
    gi_wp2_with (refine ⟨trivial, ?_⟩; gi_at_call 47; refine (CallsIn.inRound l (callsIn_wide.2 hcnt)).mono ?_; rintro e w' ⟨rfl, rfl⟩)
    · rename_i hx
      exact ⟨KeepsOthers.setCell _ _ _, ⟨rfl, ⟨x, by simp, by simpa using hx⟩, World.cell?_setCell_same' _ _ _ (by rw [hc]; rfl)⟩, hB.setCell (p := ⟨w.heap.size, 0, none⟩) (Nat.le_refl _) _⟩
    all_goals
      have hx0 : (chk xs c x.1).count true ≠ 0 := by rename_i hx _; simpa using hx
      refine ⟨KeepsOthers.setCell _ _ _, ⟨by simp, World.cell?_setCell_other _ _ _ _ (by simp), World.cell?_setCell_other _ _ _ _ (by simp)⟩, ⟨⟨fun y hy => ?_, ⟨(World.cell?_setCell_other _ _ _ _ (by simp)).trans hc, by rw [World.frozen?_setCell]; exact hf⟩, ⟨(World.cell?_setCell_same' _ _ _ (by rw [hc2]; rfl)).trans ?_, by rw [World.frozen?_setCell]; exact hf2⟩⟩, hB.setCell (p := ⟨w.heap.size + 1, 0, none⟩) (by simp) _⟩⟩
      · rcases List.mem_append.1 hy with hy | hy
        · exact hp y hy
        · simp only [List.mem_singleton] at hy
          subst hy
          exact hx0
      · rename_i hw
        rw [wholeC_snoc, hcl2]
        simp [hw, beq_cast]
  case done =>
    rintro D ys W hD ⟨m, h, hm, rfl⟩ ⟨⟨hp, ⟨hc, hf⟩, ⟨hc2, hf2⟩⟩, hB⟩ hK
    gi_wp2
    have hK' := (KeepsOthers.setCell W ⟨w.heap.size, 0, none⟩ (.bool (wholeC xs c (upC c xs.length hc0 m h)))).same D _ hK rfl
    refine ⟨by simp, .inl ⟨_, _, rfl, run_takeDeferred hK', ?_⟩⟩
    have hc5 := cell_kept (World.cell?_setCell_same' W ⟨w.heap.size, 0, none⟩ (.bool (wholeC xs c (upC c xs.length hc0 m h))) (by rw [hc]; rfl)) (grownBy_putObj' _ D (.deferred none)) (fun r e => by cases e; exact ⟨_, hK', rfl⟩)
    refine ⟨.bool (wholeC xs c (upC c xs.length hc0 m h)), ?_, ⟨_, .inl ⟨⟨m, h, hm, rfl⟩, hp, rfl⟩⟩, (hB.setCell (p := ⟨w.heap.size, 0, none⟩) (Nat.le_refl _) _).trans (belowK_b (w := w) (Nat.le_refl _) _ D _ _ (by omega) hK' rfl rfl)⟩
    simp [results, Try.f49, go_sem, hc5]
  case stop =>
    rintro D k pre W hD ⟨m, h, rfl⟩ ⟨⟨rfl, hin, hcr⟩, hB⟩ hK
    gi_wp2
    refine ⟨by simp, .inl ⟨_, _, rfl, run_takeDeferred hK, ?_⟩⟩
    have hc5 := cell_kept hcr (grownBy_putObj' _ D (.deferred none)) (fun r e => by cases e; exact ⟨_, hK, rfl⟩)
    refine ⟨.bool false, ?_, ⟨_, .inr ⟨⟨m, h, List.prefix_refl _⟩, hin, rfl⟩⟩, hB.trans (belowK_b (w := w) (Nat.le_refl _) W D _ _ (by omega) hK rfl rfl)⟩
    simp [results, Try.f49, go_sem, hc5]
end Go.Proofs.Ytodebgfppmcjlaa
