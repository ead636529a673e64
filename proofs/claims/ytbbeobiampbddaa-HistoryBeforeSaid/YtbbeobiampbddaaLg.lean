/- Slices: those of the call's own that grow, and those that are only read. -/
import Derived.Test.YtbbeobiampbddaaLf
import Derived.Maps.AppendAt
import Derived.Laws.OwnMore
import Derived.Deep.Upon
set_option linter.unusedVariables false
set_option linter.unusedSimpArgs false
namespace Go.Proofs.YtbbeobiampbddaaL
open Go Go.RowKit

theorem Cells.nil {α : Type} (T : Ty α) (ok : Nat → Prop) (w : World) : Cells T ok w [] [] := ⟨by simp, fun j x h => by simp at h⟩
theorem Cells.app {α : Type} {T : Ty α} {ok : Nat → Prop} {w : World} {xs ys : List α} {cs ds : List Value} (h : Cells T ok w xs cs) (k : Cells T ok w ys ds) : Cells T ok w (xs ++ ys) (cs ++ ds) := by
  refine ⟨by rw [List.length_append, List.length_append, h.1, k.1, Nat.add_mul], fun j x hj => ?_⟩
  rcases Nat.lt_or_ge j xs.length with hlt | hge
  · rw [List.getElem?_append_left hlt] at hj
    have := h.2 j x hj
    have hle : (j + 1) * T.sz ≤ cs.length := by rw [h.1]; exact Nat.mul_le_mul_right _ hlt
    rw [Nat.add_mul, Nat.one_mul] at hle
    rw [List.drop_append_of_le_length (by omega), List.take_append_of_le_length (by rw [List.length_drop]; omega)]
    exact this
  · rw [List.getElem?_append_right hge] at hj
    have := k.2 _ x hj
    have e : j * T.sz = cs.length + (j - xs.length) * T.sz := by
      rw [h.1, ← Nat.add_mul]; congr 1; omega
    rw [e, ← List.drop_drop, List.drop_left]
    exact this
theorem Cells.one {α : Type} {T : Ty α} {ok : Nat → Prop} {w : World} {x : α} {cs : List Value} (h : T.R ok w x cs) : Cells T ok w [x] cs := by
  refine ⟨by simp [T.len h], fun j y hj => ?_⟩
  match j, hj with
  | 0, hj =>
    simp at hj
    subst hj
    rw [Nat.zero_mul, List.drop_zero, ← T.len h, List.take_length]
    exact h
  | j + 1, hj => simp at hj
theorem Cells.one_ {α : Type} {T : Ty α} {ok : Nat → Prop} {w : World} : ∀ {xs : List α} {cs : List Value}, Cells T ok w xs cs → ∀ u ∈ cs, u.oneCell' = true := by
  intro xs cs h u hu
  obtain ⟨k, hk, e⟩ := List.mem_iff_getElem.1 hu
  rcases Nat.eq_zero_or_pos T.sz with h0 | h0
  · have := h.1; rw [h0] at this; simp at this; rw [this] at hk; simp at hk
  have hj : k / T.sz < xs.length := by
    rw [Nat.div_lt_iff_lt_mul h0]; rw [← h.1]; exact hk
  have hR := h.2 _ _ (List.getElem?_eq_getElem hj)
  refine T.one hR u (List.mem_of_getElem? (i := k % T.sz) ?_)
  rw [List.getElem?_take, if_pos (Nat.mod_lt _ h0), List.getElem?_drop]
  rw [show k / T.sz * T.sz + k % T.sz = k by rw [Nat.mul_comm]; exact Nat.div_add_mod k T.sz]
  rw [← e]; exact List.getElem?_eq_getElem hk

section
variable {P : Program} {N : Nat} {Q : QE} {ρ : Env} {w : World} {w0 : Base} {ops : Array Oper} {rest : List Oper}
variable {d : Option Tmp} {ty : TypeId} {pos : String} {aft : Array Edge} {gd : Option (Nat × Bool)}
variable {ok0 : Nat → Prop} {Γ : List It} {Λ : List LObj}

theorem St.slice (hs : St ok0 w0 w Γ Λ) (i : Nat) {α : Type} {A : Ty α} {xs : List α} {v : Value} (hi : Γ[i]? = some (vl (tSlice A) xs v)) : ∃ a c, v = .slice a xs.length c := by
  obtain ⟨ok, h⟩ := hs.get i hi
  obtain ⟨a, c, e, _⟩ := tSlice_V.1 h
  exact ⟨a, c, e⟩
theorem ownsRow_form {base n sz : Nat} {E : TypeId} {v : Value} {cs : List Value} (h : w.ownsRow base E sz v n cs) : ∃ a c, v = .slice a n c ∧ n ≤ c := by
  rcases h.2 with ⟨rfl, rfl⟩ | ⟨g, cap, cur, rfl, _, _, hc, _⟩
  · exact ⟨_, _, rfl, Nat.le_refl _⟩
  · exact ⟨_, _, rfl, hc⟩
theorem St.ownv (hs : St ok0 w0 w Γ Λ) (i : Nat) {α : Type} {A : Ty α} {E : TypeId} {xs : List α} {v : Value} (hi : Λ[i]? = some (own A E v xs)) : ∃ a c, v = .slice a xs.length c := by
  obtain ⟨ok, bs, ⟨_, _, rfl, a, rfl⟩ | ⟨_, cs, _, h, _⟩, _⟩ := hs.split i hi
  · exact ⟨_, _, rfl⟩
  · obtain ⟨a, c, e, _⟩ := ownsRow_form h
    exact ⟨a, c, e⟩
theorem St.ownv3 (hs : St ok0 w0 w Γ Λ) (i : Nat) {α : Type} {A : Ty α} {E : TypeId} {xs : List α} {v : Value} (hi : Λ[i]? = some (own A E v xs)) : ∃ a n c, v = .slice a n c := by
  obtain ⟨a, c, e⟩ := hs.ownv i hi
  exact ⟨a, _, c, e⟩
theorem St.ownLen (hs : St ok0 w0 w Γ Λ) (i : Nat) {α : Type} {A : Ty α} {E : TypeId} {xs : List α} {a : Option Addr} {n c : Nat} (hi : Λ[i]? = some (own A E (.slice a n c) xs)) : n = xs.length := by
  obtain ⟨a', c', e⟩ := hs.ownv i hi
  cases e
  rfl
/-- The nil slice, to be appended to. -/
theorem St.ownNil (hs : St ok0 w0 w Γ Λ) {α : Type} (A : Ty α) (E : TypeId) : St ok0 w0 w Γ (own A E (.slice none 0 0) [] :: Λ) :=
  hs.new (Below.refl _ _) (bs := []) (by simp) (by simp) fun ok ok1 _ _ => .inl ⟨rfl, rfl, rfl, _, rfl⟩
/-- So is any slice without elements and room. -/
theorem St.ownEmpty (hs : St ok0 w0 w Γ Λ) {α : Type} (A : Ty α) (E : TypeId) (a : Option Addr) : St ok0 w0 w Γ (own A E (.slice a 0 0) [] :: Λ) :=
  hs.new (Below.refl _ _) (bs := []) (by simp) (by simp) fun ok ok1 _ _ => .inl ⟨rfl, rfl, rfl, _, rfl⟩
/-- A row that was written out. -/
theorem St.ownLit (hs : St ok0 w0 w Γ Λ) (i : Nat) {g : Nat} {E : TypeId} {cs : List Value} (hi : Λ[i]? = some (blk g E cs)) {α : Type} {A : Ty α} {xs : List α} (h : ∀ ok, All ok w Γ → Cells A ok w xs cs) (hm : xs.length ≤ maxLen) :
    St ok0 w0 w Γ (Λ.set i (own A E (.slice (some ⟨g, 0, none⟩) xs.length xs.length) xs)) := by
  rcases Nat.eq_zero_or_pos xs.length with h0 | h0
  · obtain rfl := List.length_eq_zero_iff.1 h0
    obtain ⟨ok, bs, ho, hA, hn, hb, hput⟩ := hs.split i hi
    exact hput _ [] w (Off.refl _ _) (by simp) (by simp) fun ok' hm' => .inl ⟨rfl, rfl, rfl, _, rfl⟩
  obtain ⟨ok, bs, ho, hA, hn, hb, hput⟩ := hs.split i hi
  obtain ⟨rfl, hg⟩ := ho
  refine hput _ [g] w (Off.refl _ _) (by simp) (fun b hb' => ⟨.inl hb', by simp only [List.mem_singleton] at hb'; subst hb'; exact lt_of_some hg⟩) fun ok' hm' => ?_
  have hC := (h ok hA).move hm'
  refine .inr ⟨h0, cs, by simp [Value.ownBlock], ⟨hC.1, .inr ⟨g, xs.length, cs.toArray, rfl, Nat.zero_le _, hg, Nat.le_refl _, hm, by simp [hC.1], ?_⟩⟩, hC⟩
  rw [← hC.1]; simp
theorem ownsRow_row {α : Type} {A : Ty α} {ok : Nat → Prop} {E : TypeId} {v : Value} {xs : List α} {cs : List Value} (h : w.ownsRow 0 E A.sz v xs.length cs) (hC : Cells A ok w xs cs) :
    (tSlice A).V (fun b => ok b ∨ b ∈ v.ownBlock.toList) w xs v := by
  refine tSlice_V.2 ?_
  obtain ⟨a, c, e, hc⟩ := ownsRow_form h
  refine ⟨a, c, e, hc, ?_⟩
  rcases h.2 with ⟨rfl, h0⟩ | ⟨g, cap, cur, rfl, _, hg, _⟩
  · exact .inl (List.length_eq_zero_iff.1 h0)
  · cases e
    refine .inr ⟨g, 0, rfl, .inr (by simp [Value.ownBlock]), lt_of_some hg, fun j x hj => ⟨_, A.move (hC.2 j x hj) fun b hb _ => ⟨rfl, .inl hb⟩, fun i u hu => ?_⟩⟩
    have hcell := h.cells (g := g) (by simp [Value.ownBlock]) (j * A.sz + i) u (by
      rw [List.getElem?_take] at hu
      split at hu
      · rwa [List.getElem?_drop] at hu
      · cases hu)
    rw [addr_add, Nat.zero_add] at hcell
    rw [Nat.zero_add]
    exact hcell
/-- A slice of the call's own is from now on only read. -/
theorem St.freezeOwn (hs : St ok0 w0 w Γ Λ) (i : Nat) {α : Type} {A : Ty α} {E : TypeId} {xs : List α} {v : Value} (hi : Λ[i]? = some (own A E v xs)) :
    St ok0 w0 w (vl (tSlice A) xs v :: Γ) (Λ.eraseIdx i) :=
  hs.freeze i hi fun ok bs h => by
    rcases h with ⟨_, rfl, rfl, a, rfl⟩ | ⟨h0, cs, rfl, h, hC⟩
    · exact tSlice_V.2 ⟨a, 0, rfl, Nat.le_refl _, .inl rfl⟩
    · exact ownsRow_row h hC

theorem cells_len {α : Type} {A : Ty α} {ok : Nat → Prop} {xs : List α} {cs : List Value} (h : Cells A ok w xs cs) : cs.length = xs.length * A.sz := h.1
theorem run_append_room_ {t tx ty e : TypeId} {i : TypeInfo} (ht : P.underlying t = some (.slice e)) (hi : P.info? e = some i) {g n cap : Nat} {x : Value} {m : Nat} {news : List Value} (hs : Src P i.size tx x m news w) (hroom : n + m ≤ cap)
    {cur : List Value} (hg : w.heap[g]? = some (.cells cur.toArray e (0, 0))) (hb : (n + m) * i.size ≤ cur.length) :
    (Builtin.append_ #[t, tx] ty #[.slice (some ⟨g, 0, none⟩) n cap, x]).run P w = .ok (.slice (some ⟨g, 0, none⟩) (n + m) cap) (setCells w g (n * i.size) news) := by
  have hst := run_storeCells (P := P) (g := g) (T := e) (n * i.size) news 0 w cur hs.one hg (by rw [hs.newsLen, Nat.add_zero, ← Nat.add_mul]; exact hb)
  simp only [Nat.add_zero] at hst
  rcases hs.kind with ⟨e', hk⟩ | hk <;> simp [Builtin.append_, run_underlying ht, run_underlying hk, sizeOf, typeInfo, hi, hs.len, hroom, hs.cells, Addr.add_lit, hst]
/-- What append does, in a state. -/
theorem WL.app_ {α : Type} {A : Ty α} {T tx E : TypeId} {z : Value} {bytes : Nat} {s x : Operand} {xs ys : List α} {v xv : Value} {news : List Value} (hs : St ok0 w0 w Γ Λ) (i : Nat) (hi : Λ[i]? = some (own A E v xs))
    (hT : P.underlying T = some (.slice E)) (hE : EI P E z A.sz bytes) (hsv : ρ.ev s = v) (hx : ρ.ev x = xv) (hsrc : Src P A.sz tx xv ys.length news w)
    (hC : ∀ ok, All ok w Γ → Cells A ok w ys news) (hb : (xs.length + ys.length) * bytes ≤ 140737488355328) (h63 : xs.length + ys.length ≤ 9223372036854775807)
    (K : ∀ v' w', St ok0 w0 w' Γ (Λ.set i (own A E v' (xs ++ ys))) → WL P N ops Q rest (putE ρ d v') w')
    (hg : wantedE ops ρ ⟨d, .call { callee := .builtin .append, args := #[s, x], argTypes := #[T, tx] }, ty, pos, aft, gd⟩ = true) (hd : fits N d = true) :
    WL P N ops Q (⟨d, .call { callee := .builtin .append, args := #[s, x], argTypes := #[T, tx] }, ty, pos, aft, gd⟩ :: rest) ρ w := by
  obtain ⟨ok, bs, ho, hA, hn, hbs, hput⟩ := hs.split i hi
  have hCy := hC ok hA
  have exec : ∀ {v' : Value} {w' : World}, (Builtin.append_ #[T, tx] ty #[v, xv]).run P w = .ok v' w' → (execOp ρ.ev ⟨d, .call { callee := .builtin .append, args := #[s, x], argTypes := #[T, tx] }, ty, pos, aft, gd⟩).run P w = .ok (.value v') w' := by
    intro v' w' hrun
    refine exec_builtin fun cns => ?_
    subst hsv
    rw [List.map_toArray]
    show (do pure (Next.value (← Builtin.append_ #[T, tx] ty #[ρ.ev s, ρ.ev x])) : Sem Next).run P w = _
    rw [hx]
    exact exec_v hrun
  obtain ⟨ti, hi1, hi2, hi3, hi4, hi5, hi6⟩ := hE.parts
  subst hi4
  have form : ∃ a c, v = .slice a xs.length c ∧ xs.length ≤ c := by
    rcases ho with ⟨_, _, rfl, a, rfl⟩ | ⟨_, cs, _, h, _⟩
    · exact ⟨a, 0, rfl, Nat.le_refl _⟩
    · exact ownsRow_form h
  obtain ⟨a, c, rfl, hac⟩ := form
  rw [← hi3] at hsrc
  rcases Nat.eq_zero_or_pos ys.length with hy | hy
  · -- nothing is added
    obtain rfl := List.length_eq_zero_iff.1 hy
    have hn0 : news = [] := List.length_eq_zero_iff.1 (by rw [hsrc.newsLen]; simp)
    subst hn0
    refine WL.value hg hd (exec (run_append_nothing w T tx ty E ti hT hi1 a xs.length c hac xv (by simpa using hsrc))) (K _ w ?_)
    rw [List.append_nil]
    exact hput _ bs w (Off.refl _ _) hn (fun b hb' => ⟨.inl hb', (hbs b hb').2.2⟩) fun ok' hm' => (own A E _ xs).move ho (fun b hb' => rfl) (fun b h1 h2 => ⟨rfl, (hm' b h1 h2).2⟩)
  · by_cases hroom : xs.length + ys.length ≤ c
    · -- there is room: the row is its own
      rcases ho with ⟨h0, _, rfl, a', e⟩ | ⟨h0, cs, hbe, how, hCx⟩
      · simp only [slCap] at h0; omega
      · rcases how.2 with ⟨e, _⟩ | ⟨g, cap, cur, e, _, hgg, hc, hm, hsz, ht⟩
        · injection e with _ _ e3
          subst e3; simp only [slCap] at h0; omega
        · cases e
          have hcl : (xs.length + ys.length) * A.sz ≤ cur.toList.length := by rw [Array.length_toList (xs := cur), hsz]; exact Nat.mul_le_mul_right _ hroom
          have hg2 : w.heap[g]? = some (.cells cur.toList.toArray E (0, 0)) := by simpa using hgg
          refine WL.value hg hd (exec (run_append_room_ hT hi1 hsrc hroom hg2 (by rw [hi3]; exact hcl))) (K _ _ ?_)
          have hnew := heap_setCells news (j := xs.length * ti.size) hg2
          have hnl : news.length = ys.length * A.sz := hCy.1
          refine hput _ [g] _ (by rw [hbe]; exact off_setCells g news w _) (by simp) (fun b hb' => ?_) fun ok' hm' => .inr ⟨h0, cs ++ news, by simp [Value.ownBlock], ?_, (hCx.app hCy).move hm'⟩
          · simp only [List.mem_singleton] at hb'
            subst hb'
            exact ⟨.inl (by rw [hbe]; simp [Value.ownBlock]), lt_of_some hnew⟩
          · rw [List.length_append]
            refine ⟨(hCx.app hCy).1.trans (by rw [List.length_append]), .inr ⟨g, c, _, rfl, Nat.zero_le _, hnew, hroom, hm, by simp [setAt_length, hsz], ?_⟩⟩
            rw [List.toList_toArray, hi3, setAt_eq _ _ _ (by rw [hnl, ← Nat.add_mul]; exact hcl), ht, hnl, ← Nat.add_mul]
            have hlen : (cs ++ news).length = (xs.length + ys.length) * A.sz := (hCx.app hCy).1.trans (by rw [List.length_append])
            rw [← hlen, List.take_left]
    · -- a new row
      have hold : ∃ olds : List Value, Cells A ok w xs olds ∧ (Builtin.firstCells ti.size xs.length (.slice a xs.length c)).run P w.drew = .ok olds.toArray w.drew := by
        rcases ho with ⟨h0, _, rfl, a', e⟩ | ⟨h0, cs, hbe, how, hCx⟩
        · refine ⟨[], Cells.nil _ _ _, ?_⟩
          cases a with
          | none => exact run_firstCells_none w.drew ti.size 0 0 c
          | some a => exact run_firstCells_some w.drew ti.size 0 a 0 c [] (by simp) (fun j u h => by cases h)
        · refine ⟨cs, hCx, ?_⟩
          rcases how.2 with ⟨e, h00⟩ | ⟨g, cap, cur, e, _, hgg, _⟩
          · injection e with _ _ e3
            subst e3; simp only [slCap] at h0; omega
          · cases e
            refine run_firstCells_some w.drew ti.size xs.length ⟨g, 0, none⟩ xs.length c cs (by rw [hi3]; exact hCx.1) (fun j u hu => ?_)
            exact how.cells (g := g) (by simp [Value.ownBlock]) j u hu
      obtain ⟨olds, hCo, hrunold⟩ := hold
      have hgrow := run_append_grow_src w T tx ty E ti z hT hi1 hi2 a xs.length c olds hrunold xv ys.length news hsrc (by omega) (by omega) (growslice_fits (by omega) hb)
      have hge := grownCap_ge w (xs.length + ys.length) c E
      refine WL.value hg hd (exec hgrow) (K _ _ ?_)
      have hnew : (w.drew.alloc (.cells ((olds ++ news).toArray ++ Builtin.zeroCells z.cells (grownCap w (xs.length + ys.length) c E - (xs.length + ys.length))) E)).heap[w.heap.size]? = some (.cells ((olds ++ news).toArray ++ Builtin.zeroCells z.cells (grownCap w (xs.length + ys.length) c E - (xs.length + ys.length))) E (0, 0)) := heap_alloc_new w.drew _
      have hlen : (olds ++ news).length = (xs.length + ys.length) * A.sz := (hCo.app hCy).1.trans (by rw [List.length_append])
      refine hput _ [w.heap.size] _ ?_ (by simp) (fun b hb' => ?_) fun ok' hm' => .inr ⟨?_, olds ++ news, by simp [Value.ownBlock], ?_, (hCo.app hCy).move hm'⟩
      · have hbl := fun o => below_alloc w.drew o
        exact ⟨(hbl _).os, (hbl _).tape, (hbl _).output, (hbl _).size, fun k hk _ => (hbl _).block k hk⟩
      · simp only [List.mem_singleton] at hb'
        subst hb'
        exact ⟨.inr (Nat.le_refl _), lt_of_some hnew⟩
      · show 0 < grownCap w (xs.length + ys.length) c E
        omega
      · rw [List.length_append]
        refine ⟨hlen, .inr ⟨w.heap.size, _, _, rfl, Nat.zero_le _, hnew, hge, grownCap_le_maxLen w _ c E (by simp only [maxLen]; omega), ?_, ?_⟩⟩
        · simp only [Array.size_append, List.size_toArray, size_zeroCells, hi5, hlen, ← Nat.add_mul]
          congr 1
          omega
        · simp only [Array.toList_append]
          rw [← hlen]
          exact List.take_left
/-- append(xs, y1, ..): the elements that are added were written out in a row of their own. -/
theorem WL.append {α : Type} {A : Ty α} {T E : TypeId} {z : Value} {bytes : Nat} {s x : Operand} {xs ys : List α} {v : Value} {g : Nat} {news : List Value} (hs : St ok0 w0 w Γ Λ) (i : Nat) (hi : Λ[i]? = some (own A E v xs)) (j : Nat) (hj : Λ[j]? = some (blk g E news))
    (hT : P.underlying T = some (.slice E)) (hE : EI P E z A.sz bytes) (hsv : ρ.ev s = v) (hx : ρ.ev x = .slice (some ⟨g, 0, none⟩) ys.length ys.length)
    (hC : ∀ ok, All ok w Γ → Cells A ok w ys news) (hb : (xs.length + ys.length) * bytes ≤ 140737488355328) (h63 : xs.length + ys.length ≤ 9223372036854775807) {zs : List α} (hz : xs ++ ys = zs)
    (K : ∀ v' w', St ok0 w0 w' Γ (Λ.set i (own A E v' zs)) → WL P N ops Q rest (putE ρ d v') w')
    (hg : wantedE ops ρ ⟨d, .call { callee := .builtin .append, args := #[s, x], argTypes := #[T, T] }, ty, pos, aft, gd⟩ = true := by rfl) (hd : fits N d = true := by rfl) :
    WL P N ops Q (⟨d, .call { callee := .builtin .append, args := #[s, x], argTypes := #[T, T] }, ty, pos, aft, gd⟩ :: rest) ρ w := by
  obtain ⟨ok, hA, _⟩ := hs.call
  have hCy := hC ok hA
  refine WL.app_ hs i hi hT hE hsv hx (Src.ofSlice w hT _ ys.length _ news hCy.1 (fun k u hu => ?_) hCy.one_) hC hb h63 (hz ▸ K) hg hd
  rw [addr_add, blk_cell (hs.blk_at j hj), Nat.zero_add]
  exact hu
/-- The cells of a row that is only read. -/
theorem Row.news {α : Type} {A : Ty α} {ok : Nat → Prop} {g off : Nat} : ∀ {xs : List α}, (∀ j x, xs[j]? = some x → ∃ cs, A.R ok w x cs ∧ ∀ i u, cs[i]? = some u → w.cell? ⟨g, off + j * A.sz + i, none⟩ = some u) →
    ∃ news, Cells A ok w xs news ∧ ∀ k u, news[k]? = some u → w.cell? ⟨g, off + k, none⟩ = some u := by
  intro xs
  induction xs generalizing off with
  | nil => exact fun _ => ⟨[], Cells.nil _ _ _, fun k u h => by cases h⟩
  | cons x xs ih =>
    intro h
    obtain ⟨cs, hR, hc⟩ := h 0 x rfl
    obtain ⟨news, hC, hn⟩ := ih (off := off + A.sz) fun j y hj => by
      obtain ⟨ds, hR', hd⟩ := h (j + 1) y hj
      refine ⟨ds, hR', fun i u hu => ?_⟩
      have := hd i u hu
      rwa [show off + (j + 1) * A.sz + i = off + A.sz + j * A.sz + i by rw [Nat.add_mul, Nat.one_mul]; omega] at this
    refine ⟨cs ++ news, (Cells.one hR).app hC, fun k u hu => ?_⟩
    rcases Nat.lt_or_ge k cs.length with hk | hk
    · rw [List.getElem?_append_left hk] at hu
      have := hc k u hu
      rwa [Nat.zero_mul, Nat.add_zero] at this
    · rw [List.getElem?_append_right hk] at hu
      have := hn _ u hu
      rwa [A.len hR, show off + A.sz + (k - A.sz) = off + k by rw [A.len hR] at hk; omega] at this
/-- append(xs, ys...). -/
theorem WL.appendS {α : Type} {A : Ty α} {T tx E : TypeId} {z : Value} {bytes : Nat} {s x : Operand} {xs ys zs : List α} {v : Value} {a : Option Addr} {c : Nat} (hs : St ok0 w0 w Γ Λ) (i : Nat) (hi : Λ[i]? = some (own A E v xs)) (j : Nat) (hj : Γ[j]? = some (vl (tSlice A) ys (.slice a ys.length c)))
    (hT : P.underlying T = some (.slice E)) (hTx : P.underlying tx = some (.slice E)) (hE : EI P E z A.sz bytes) (hsv : ρ.ev s = v) (hx : ρ.ev x = .slice a ys.length c)
    (hb : (xs.length + ys.length) * bytes ≤ 140737488355328) (h63 : xs.length + ys.length ≤ 9223372036854775807) (hz : xs ++ ys = zs)
    (K : ∀ v' w', St ok0 w0 w' Γ (Λ.set i (own A E v' zs)) → WL P N ops Q rest (putE ρ d v') w')
    (hg : wantedE ops ρ ⟨d, .call { callee := .builtin .append, args := #[s, x], argTypes := #[T, tx] }, ty, pos, aft, gd⟩ = true := by rfl) (hd : fits N d = true := by rfl) :
    WL P N ops Q (⟨d, .call { callee := .builtin .append, args := #[s, x], argTypes := #[T, tx] }, ty, pos, aft, gd⟩ :: rest) ρ w := by
  obtain ⟨ok, hh⟩ := hs.get j hj
  obtain ⟨a', c', e, hc, hr⟩ := tSlice_V.1 hh
  cases e
  rcases hr with rfl | ⟨g, off, rfl, hok, hlt, hcell⟩
  · -- no element
    have hsrc : Src P A.sz tx (.slice a 0 c) 0 [] w := by
      cases a with
      | none => exact Src.ofNil w hTx c
      | some a => exact Src.ofSlice w hTx a 0 c [] (by simp) (fun k u h => by cases h) (fun _ h => by cases h)
    exact WL.app_ (ys := []) hs i hi hT hE hsv hx hsrc (fun _ _ => Cells.nil _ _ _) hb h63 (hz ▸ K) hg hd
  · obtain ⟨news, hC, hn⟩ := Row.news hcell
    have hnews : ∀ ok, All ok w Γ → Cells A ok w ys news := by
      intro ok' hA
      obtain ⟨a2, c2, e2, _, hr2⟩ := tSlice_V.1 (hA.get j hj)
      cases e2
      rcases hr2 with h0 | ⟨g2, off2, e3, _, _, hcell2⟩
      · have h0' : ys = [] := h0
        subst h0'
        have : news = [] := List.length_eq_zero_iff.1 (by rw [hC.1]; simp)
        subst this
        exact Cells.nil _ _ _
      · cases e3
        obtain ⟨news2, hC2, hn2⟩ := Row.news hcell2
        have : news = news2 := by
          apply List.ext_getElem?
          intro k
          rcases Nat.lt_or_ge k (ys.length * A.sz) with hk | hk
          · have a1 := hn k _ (List.getElem?_eq_getElem (by rw [hC.1]; exact hk))
            have a2 := hn2 k _ (List.getElem?_eq_getElem (by rw [hC2.1]; exact hk))
            rw [List.getElem?_eq_getElem (by rw [hC.1]; exact hk), List.getElem?_eq_getElem (by rw [hC2.1]; exact hk), ← a1, ← a2]
          · rw [List.getElem?_eq_none (by rw [hC.1]; exact hk), List.getElem?_eq_none (by rw [hC2.1]; exact hk)]
        rw [this]
        exact hC2
    refine WL.app_ hs i hi hT hE hsv hx (Src.ofSlice w hTx _ ys.length c news hC.1 (fun k u hu => ?_) hC.one_) hnews hb h63 (hz ▸ K) hg hd
    rw [addr_add]
    exact hn k u hu
end
end Go.Proofs.YtbbeobiampbddaaL
