/- slices.SortFunc on slices of slices. -/
import Derived.Test.YtodebgfppmcjlaaLq
import Derived.Shelf.SlSortCmp.Whole1
set_option linter.unusedVariables false
set_option linter.unusedSimpArgs false
set_option linter.unnecessarySimpa false
namespace Go.Proofs.YtodebgfppmcjlaaL
open Go Go.RowKit Go.Shelf Go.Sort Go.Lib
section
variable {P : Program} {ρ : Ren} {β : Type} {w0 : World} {F : Base} {ok : Nat → Prop}
/-- A header, with what is read through it. -/
abbrev Hd (B : Ty β) (G : List β → Prop) (okr : Nat → Prop) (w : World) : Type := { p : Value × List β // (vl (tSlice B) p.2 p.1).holds okr w ∧ G p.2 }
abbrev Hd.inh {B : Ty β} {G : List β → Prop} {okr : Nat → Prop} {w : World} (h : G []) : Inhabited (Hd B G okr w) := ⟨⟨(.slice none 0 0, []), V_nil, h⟩⟩
theorem sort_callsS (L : Go.Proofs.SlLaysF.n6 P ρ) {B : Ty β} {E : TypeId} (cf : List β → List β → Int) (hO : SWO (Go.Proofs.ltOf cf)) (g : Nat) (eg : ∀ args w, (callFunc g args).run P w = .ok (.enter g args) w)
    (G : List β → Prop) (hG0 : G []) (hcmp : ∀ (ok : Nat → Prop) (W : World) (xs ys : List β) (a a' : Option Addr) (c c' : Nat), G xs → G ys → (vl (tSlice B) xs (.slice a xs.length c)).holds ok W → (vl (tSlice B) ys (.slice a' ys.length c')).holds ok W →
      Calls P g #[.slice a xs.length c, .slice a' ys.length c'] W fun e w' => e = .returned (.int .i64 (cf xs ys)) ∧ w' = W)
    {a : Option Addr} {n c : Nat} {xs ys : List (List β)} (hs : St ok F w0 [] [own (tSlice B) E (.slice a n c) xs]) (hf : sortU (Go.Proofs.ltOf cf) xs = some ys) (hGx : ∀ x ∈ xs, G x) :
    Calls P (ρ.f 6) #[.slice a n c, .func (.func g) #[] #[]] w0 fun e w' => ∃ v, e = .returned v ∧ ∃ y : Unit, v = .tuple #[] ∧ St ok F w' [] [own (tSlice B) E (.slice a n c) ys] := by
  obtain rfl := hs.ownLen 0 rfl
  have hys := sortU_perm hf
  have hsrt := sortU_sorted hO hf
  obtain ⟨⟨hpw, hsize⟩, _⟩ := guardE hf
  rcases Nat.eq_zero_or_pos xs.length with hz | hz
  · have hx0 : xs = [] := List.length_eq_zero_iff.1 hz
    subst hx0
    have hy0 : ys = [] := hys.eq_nil
    subst hy0
    refine (Go.Proofs.AnyF.slices_SortFunc_none (L := { L with }) a c (.func (.func g) #[] #[]) w0).mono ?_
    rintro e w' ⟨rfl, rfl⟩
    exact ⟨_, rfl, (), rfl, hs⟩
  obtain ⟨okr, bs, ho, hA, hn, hbs, hput⟩ := hs.split 0 rfl
  obtain ⟨gb, c', cur, e, hb, hgh, hc', hmx, hsz, hC⟩ := own_some ho hz
  cases e
  have hs1 : (tSlice B).sz = 1 := rfl
  rw [hs1, Nat.mul_one] at hsz hC
  have hgbk : ¬ okr gb := (hbs gb (by rw [hb]; simp)).1
  have hel : ∀ i (hi : i < xs.length), (vl (tSlice B) xs[i] (cur[i]'(by omega))).holds okr w0 := by
    intro i hi
    have hR := hC.2 i xs[i] (List.getElem?_eq_getElem hi)
    rw [hs1, Nat.mul_one] at hR
    have e1 : ((cur.toList.take xs.length).drop i).take 1 = [cur[i]'(by omega)] := by
      rw [List.drop_eq_getElem_cons (by rw [List.length_take, Array.length_toList (xs := cur)]; omega)]
      simp
    rw [e1] at hR
    exact ⟨_, hR, rfl⟩
  have : Inhabited (Hd B G okr w0) := Hd.inh hG0
  let enc : Hd B G okr w0 → Value := fun p => p.1.1
  let d : Array (Hd B G okr w0) := Array.ofFn fun i : Fin xs.length => ⟨(cur[i.1]'(by omega), xs[i.1]), hel i.1 i.2, hGx _ (List.getElem_mem _)⟩
  have hds : d.size = xs.length := Array.size_ofFn
  have hdg : ∀ i (hi : i < xs.length), (d[i]!).1 = (cur[i]'(by omega), xs[i]) := by
    intro i hi
    rw [getElem!_pos d i (by omega)]
    exact congrArg (fun p : Hd B G okr w0 => p.1) (Array.getElem_ofFn _)
  have hdm : d.toList.map (fun p => p.1.2) = xs := by
    apply List.ext_getElem
    · simp [hds]
    · intro i h1 h2
      have := hdg i h2
      rw [getElem!_pos d i (by omega)] at this
      simp only [List.getElem_map, Array.getElem_toList, this]
  have hH : Holds enc w0 gb 0 d := by
    intro j hj
    rw [hds] at hj
    have hjc : j < cur.size := by omega
    refine ⟨?_, by simp [World.frozen?, hgh]⟩
    simp only [World.cell?, hgh, enc, hdg j hj]
    simp [hjc]
  have hone : OneCell enc := by
    rintro ⟨⟨v, zs⟩, h, _⟩
    obtain ⟨a, c, e, _⟩ := tSlice_V.1 (show (vl (tSlice B) zs v).holds okr w0 from h)
    show v.oneCell' = true
    rw [e]
    rfl
  have hO' : SWO (Go.Proofs.ltOf fun p q : Hd B G okr w0 => cf p.1.2 q.1.2) := ⟨fun x => hO.irrefl _, fun x y z => hO.trans _ _ _, fun x y z => hO.ntrans _ _ _⟩
  have hkeep : ∀ (m : Nat) (os : Array Obj) (dk : Array (Hd B G okr w0)) (b : Nat), b ≠ gb → b < w0.heap.size → (Go.Proofs.sortWorld enc w0 gb 0 m dk os).heap[b]? = w0.heap[b]? := by
    intro m os dk b hne hlt
    simp only [Go.Proofs.sortWorld, grow, putRow, mapBlock, ahead]
    rw [Array.getElem?_append_left (by simpa using hlt), Array.getElem?_modify, if_neg (fun e => hne e.symm)]
    rfl
  have hlay : Go.Proofs.CmpLays1 P g #[] enc (fun p q => cf p.1.2 q.1.2) gb 0 d.size w0 := by
    intro m os dk hdk x y
    obtain ⟨⟨v, us⟩, hx, gx⟩ := x
    obtain ⟨⟨u, vs⟩, hy, gy⟩ := y
    have hmv : ∀ b, okr b → b < w0.heap.size → (Go.Proofs.sortWorld enc w0 gb 0 m dk os).heap[b]? = w0.heap[b]? ∧ okr b := fun b hb1 hb2 => ⟨hkeep m os dk b (fun e => hgbk (e ▸ hb1)) hb2, hb1⟩
    have hx' : (vl (tSlice B) us v).holds okr (Go.Proofs.sortWorld enc w0 gb 0 m dk os) := It.holds.move hx hmv
    have hy' : (vl (tSlice B) vs u).holds okr (Go.Proofs.sortWorld enc w0 gb 0 m dk os) := It.holds.move hy hmv
    obtain ⟨a1, c1, e1, _⟩ := tSlice_V.1 hx'
    obtain ⟨a2, c2, e2, _⟩ := tSlice_V.1 hy'
    rw [e1] at hx'
    rw [e2] at hy'
    show Calls P g #[v, u] _ fun e w' => e = .returned (.int .i64 (cf us vs)) ∧ ∃ q os', w' = grow ((Go.Proofs.sortWorld enc w0 gb 0 m dk os).drewN q) os'
    rw [e1, e2]
    refine (hcmp okr _ us vs a1 a2 c1 c2 gx gy hx' hy').mono ?_
    rintro e w' ⟨rfl, rfl⟩
    exact ⟨rfl, 0, #[], by rw [grow_empty]; rfl⟩
  have hmain := Go.Proofs.Any.slices_SortFunc L enc hone (fun p q => cf p.1.2 q.1.2) hO' g #[] gb 0 c d w0 eg hlay hH (lt_of_some hgh) (by rw [hds]; simpa using hsize)
  rw [hds] at hmain
  refine hmain.mono ?_
  rintro e w' ⟨rfl, d', q, os, hperm, hsorted, rfl⟩
  obtain ⟨hp1, _, hp3⟩ := hperm
  have hd' : d'.size = xs.length := hp1.trans hds
  have hpe : d'.toList.Perm d.toList := by
    have e1 : (d'.extract 0 xs.length).toList = d'.toList := by rw [← hd']; simp
    have e2 : (d.extract 0 xs.length).toList = d.toList := by rw [← hds]; simp
    rw [e1, e2] at hp3
    exact hp3
  have hyeq : d'.toList.map (fun p => p.1.2) = ys := by
    refine sort_unique hO hpw ?_ hys ?_ hsrt
    · have := hpe.map (fun p : Hd B G okr w0 => p.1.2)
      rwa [hdm] at this
    · rw [List.pairwise_map]
      exact pairwise_of_sortedIn (d := d') (by rw [hd']; exact hsorted)
  have hyl : ys.length = xs.length := hys.length_eq
  refine ⟨_, rfl, (), rfl, hput (own (tSlice B) E (.slice (some ⟨gb, 0, none⟩) xs.length c) ys) [gb] _ ?_ (by simp) ?_ fun ok' hm => ?_⟩
  · rw [hb]
    refine ⟨rfl, rfl, rfl, ?_, fun k hk' hkn => ?_⟩
    · simp [Go.Proofs.sortWorld, grow, putRow, mapBlock, ahead]
    · exact hkeep q os d' k (fun e => hkn (by simp [e])) hk'
  · intro b hb'
    simp only [List.mem_singleton] at hb'
    subst hb'
    refine ⟨.inl (by rw [hb]; simp), ?_⟩
    have := lt_of_some hgh
    simp [Go.Proofs.sortWorld, grow, putRow, mapBlock, ahead]
    omega
  · have hnew : (Go.Proofs.sortWorld enc w0 gb 0 q d' os).heap[gb]? = some (.cells (putCells enc 0 d' cur) E (0, 0)) := by
      have := lt_of_some hgh
      simp only [Go.Proofs.sortWorld, grow, putRow, mapBlock, ahead]
      rw [Array.getElem?_append_left (by simpa using this), Array.getElem?_modify, if_pos rfl, show (Go.Sort.ahead w0 q).heap[gb]? = w0.heap[gb]? from rfl, hgh]
      rfl
    have hcells : Cells (tSlice B) ok' (Go.Proofs.sortWorld enc w0 gb 0 q d' os) ys (d'.toList.map fun p => p.1.1) := by
      refine ⟨by simp [hd', hyl, hs1], fun j y hj => ?_⟩
      have hjl : j < ys.length := (List.getElem?_eq_some_iff.1 hj).1
      have hjd : j < d'.size := by omega
      rw [hs1, Nat.mul_one]
      have e1 : ((d'.toList.map fun p => p.1.1).drop j).take 1 = [(d'[j]).1.1] := by
        rw [List.drop_eq_getElem_cons (by simpa using hjd)]
        simp
      have e2 : (d'[j]).1.2 = y := by
        rw [← hyeq] at hj
        simpa [hjd] using hj
      have h3 := (d'[j]).2.1.move hm
      rw [e2] at h3
      obtain ⟨cs, hR, hv⟩ := h3
      have hl : cs.length = 1 := (tSlice B).len hR
      match cs, hl, hR, hv with
      | [v], _, hR, hv =>
        have hv : (d'[j]).1.1 = v := hv
        rw [e1, hv]
        exact hR
    refine .inr ⟨by show 0 < c; omega, _, by simp [Value.ownBlock], ⟨hcells.1, .inr ⟨gb, c, _, by rw [hyl], Nat.zero_le _, hnew, by rw [hyl]; exact hc', hmx, by simp [putCells, hsz, hs1], ?_⟩⟩, hcells⟩
    rw [hyl, hs1, Nat.mul_one]
    apply List.ext_getElem?
    intro j
    rw [List.getElem?_take]
    by_cases hj : j < xs.length
    · rw [if_pos hj, Array.getElem?_toList]
      have hjc : j < cur.size := by omega
      simp only [putCells, Array.getElem?_mapIdx, Array.getElem?_eq_getElem hjc, Option.map_some]
      rw [if_pos ⟨Nat.zero_le _, by omega⟩, Nat.sub_zero, getElem!_pos d' j (by omega)]
      simp [hd', hj, enc]
    · rw [if_neg hj, List.getElem?_eq_none (by simp; omega)]
end
end Go.Proofs.YtodebgfppmcjlaaL
