/- slices.SortFunc, over the kit's contract: where any two elements are told apart. -/
import Derived.Test.YthfoljpjhegkmaaDoorLqa
import Derived.Shelf.SlSortCmp.WholeK
import Derived.Shelf.SlSortCmp.NoneTotal
set_option linter.unusedVariables false
set_option linter.unusedSimpArgs false
set_option linter.unusedSectionVars false
namespace Go.Proofs.YthfoljpjhegkmaaDoorL
open Go Go.RowKit Go.Shelf Go.Sort
section
variable {P : Program} {ρ : Ren} {α : Type} [Inhabited α] {w0 : World} {F : Base} {ok : Nat → Prop}
theorem sort_calls (L : Go.Proofs.SlLaysF0.n6 P ρ) {A : Ty α} {enc : α → List Value} (henc : ∀ (ok : Nat → Prop) (w : World) (x : α) (cs : List Value), A.R ok w x cs ↔ cs = enc x) {E : TypeId} (h0 : 0 < A.sz)
    (aE : ∀ w, (isAgg (ρ.t 24)).run P w = .ok true w) (zE : ∀ w, (Go.sizeOf (ρ.t 24)).run P w = .ok A.sz w) (cf : α → α → Int) (hO : SWO (Go.Proofs.ltOf cf)) (g : Nat) (eg : ∀ args w, (callFunc g args).run P w = .ok (.enter g args) w)
    (hcmp : ∀ (W : World) (x y : α), Calls P g #[.agg (enc x).toArray, .agg (enc y).toArray] W fun e w' => e = .returned (.int .i64 (cf x y)) ∧ ∃ q os', w' = grow (W.drewN q) os')
    {a : Option Addr} {n c : Nat} {xs ys : List α} (hs : St ok F w0 [] [own A E (.slice a n c) xs]) (hf : sortU (Go.Proofs.ltOf cf) xs = some ys) :
    Calls P (ρ.f 6) #[.slice a n c, .func (.func g) #[] #[]] w0 fun e w' => ∃ v, e = .returned v ∧ ∃ y : Unit, v = .tuple #[] ∧ St ok F w' [] [own A E (.slice a n c) ys] := by
  obtain rfl := hs.ownLen 0 rfl
  have hys := sortU_perm hf
  have hsrt := sortU_sorted hO hf
  obtain ⟨⟨hpw, hsize⟩, _⟩ := guardE hf
  rcases Nat.eq_zero_or_pos xs.length with hz | hz
  · have hx0 : xs = [] := List.length_eq_zero_iff.1 hz
    subst hx0
    have hy0 : ys = [] := hys.eq_nil
    subst hy0
    refine (Go.Proofs.AnyF.slices_SortFunc_none (L := { L with }) a c (.func (.func g) #[] #[]) w0).mono ?_
    rintro e w' ⟨rfl, rfl⟩
    exact ⟨_, rfl, (), rfl, hs⟩
  obtain ⟨okr, bs, ho, hA, hn, hbs, hput⟩ := hs.split 0 rfl
  obtain ⟨gb, c', cur, e, hb, hgh, hc', hmx, hsz, hC⟩ := own_some ho hz
  cases e
  have hk : ∀ x : α, (enc x).length = A.sz := fun x => A.len ((henc okr w0 x _).2 rfl)
  have h1 : ∀ x : α, ∀ v ∈ enc x, v.oneCell' = true := fun x => A.one ((henc okr w0 x _).2 rfl)
  have hH : HoldsK enc A.sz w0 gb 0 xs.toArray := by
    intro j hj
    rw [size_flatK] at hj
    simp only [List.size_toArray] at hj
    have hjd : j / A.sz < xs.length := Nat.div_lt_of_lt_mul (by rw [Nat.mul_comm]; exact hj)
    have hjm : j % A.sz < A.sz := Nat.mod_lt _ h0
    rw [get_flatK _ _ _ _ (by simpa using hj), Nat.zero_add]
    have hel := hC.2 (j / A.sz) xs[j / A.sz] (List.getElem?_eq_getElem hjd)
    rw [henc] at hel
    have hcell : cur.toList[j]? = (enc xs[j / A.sz])[j % A.sz]? := by
      rw [← hel, List.getElem?_take, if_pos hjm, List.getElem?_drop, List.getElem?_take, Nat.div_add_mod' j A.sz, if_pos hj]
    refine ⟨?_, by simp [World.frozen?, hgh]⟩
    simp only [World.cell?, hgh]
    have e1 : (xs.toArray)[j / A.sz]! = xs[j / A.sz] := by simp [hjd]
    rw [e1]
    have e2 : (enc xs[j / A.sz])[j % A.sz]! = (enc xs[j / A.sz])[j % A.sz]'(by rw [hk]; exact hjm) := getElem!_pos _ _ _
    have e3 : cur[j]? = some ((enc xs[j / A.sz])[j % A.sz]'(by rw [hk]; exact hjm)) := by
      rw [← Array.getElem?_toList, hcell]
      exact List.getElem?_eq_getElem _
    rw [e2]
    simpa using e3
  refine (Go.Proofs.AnyQ.slices_SortFunc L A.sz aE zE enc hk h1 cf hO g #[] gb 0 c xs.toArray w0 eg (fun m os dk _ x y => by simpa using hcmp _ x y) hH (lt_of_some hgh) (by simpa using hsize)).mono ?_
  rintro e w' ⟨rfl, d', q, os, hperm, hsorted, rfl⟩
  obtain ⟨hp1, _, hp3⟩ := hperm
  simp only [List.size_toArray] at hp1
  have hd : d'.toList = ys := by
    have hpe : d'.toList.Perm xs := by
      have : (d'.extract 0 xs.toArray.size).toList = d'.toList := by rw [List.size_toArray, ← hp1]; simp
      rw [this] at hp3
      simpa using hp3
    exact sort_unique hO hpw hpe hys (pairwise_of_sortedIn (by rw [hp1]; simpa using hsorted)) hsrt
  have hyl : ys.length = xs.length := hys.length_eq
  refine ⟨_, rfl, (), rfl, hput (own A E (.slice (some ⟨gb, 0, none⟩) xs.length c) ys) [gb] _ ?_ (by simp) ?_ fun ok' hm => ?_⟩
  · rw [hb]
    refine ⟨rfl, rfl, rfl, ?_, fun k hk' hkn => ?_⟩
    · simp [Go.Proofs.sortWorldK, grow, putRowK, putRow, mapBlock, ahead]
    · have : gb ≠ k := fun e => hkn (by simp [e])
      simp only [Go.Proofs.sortWorldK, grow, putRowK, putRow, mapBlock, ahead]
      rw [Array.getElem?_append_left (by simpa using hk'), Array.getElem?_modify, if_neg this]
      rfl
  · intro b hb'
    simp only [List.mem_singleton] at hb'
    subst hb'
    refine ⟨.inl (by rw [hb]; simp), ?_⟩
    have := lt_of_some hgh
    simp [Go.Proofs.sortWorldK, grow, putRowK, putRow, mapBlock, ahead]
    omega
  · have hnew : (Go.Proofs.sortWorldK enc A.sz w0 gb 0 q d' os).heap[gb]? = some (.cells (putCells id 0 (flatK enc A.sz d') cur) E (0, 0)) := by
      have := lt_of_some hgh
      simp only [Go.Proofs.sortWorldK, grow, putRowK, putRow, mapBlock, ahead]
      rw [Array.getElem?_append_left (by simpa using this), Array.getElem?_modify, if_pos rfl, show (Go.Sort.ahead w0 q).heap[gb]? = w0.heap[gb]? from rfl, hgh]
      rfl
    have hfs : (flatK enc A.sz d').size = xs.length * A.sz := by rw [size_flatK, hp1]
    have hcurl : xs.length * A.sz ≤ cur.size := by rw [hsz]; exact Nat.mul_le_mul_right _ hc'
    have htake : (putCells id 0 (flatK enc A.sz d') cur).toList.take (xs.length * A.sz) = (flatK enc A.sz d').toList := by
      apply List.ext_getElem?
      intro j
      rw [List.getElem?_take]
      by_cases hj : j < xs.length * A.sz
      · rw [if_pos hj, Array.getElem?_toList, Array.getElem?_toList]
        have hjc : j < cur.size := by omega
        simp only [putCells, Array.getElem?_mapIdx, Array.getElem?_eq_getElem hjc, Option.map_some]
        rw [if_pos ⟨Nat.zero_le _, by omega⟩, Nat.sub_zero, getElem!_pos _ _ (by rw [hfs]; exact hj), Array.getElem?_eq_getElem (by rw [hfs]; exact hj)]
        rfl
      · rw [if_neg hj, List.getElem?_eq_none (by rw [Array.length_toList, hfs]; omega)]
    have hC2 : ∀ (ok2 : Nat → Prop) (w2 : World), Cells A ok2 w2 ys (flatK enc A.sz d').toList := by
      intro ok2 w2
      refine ⟨by rw [Array.length_toList, hfs, hyl], fun j y hj => ?_⟩
      rw [henc]
      have hjl : j < ys.length := (List.getElem?_eq_some_iff.1 hj).1
      have hjd : j < d'.size := by rw [hp1, ← hyl]; exact hjl
      have hy : d'[j]! = y := by
        rw [getElem!_pos d' j hjd]
        have := hj
        rw [← hd, Array.getElem?_toList, Array.getElem?_eq_getElem hjd] at this
        exact Option.some.inj this
      apply List.ext_getElem?
      intro i
      rw [List.getElem?_take]
      by_cases hi : i < A.sz
      · have hlt : j * A.sz + i < d'.size * A.sz := by
          have := Nat.mul_le_mul_right A.sz (show j + 1 ≤ d'.size from hjd)
          rw [Nat.add_mul, Nat.one_mul] at this
          omega
        have hdiv : (j * A.sz + i) / A.sz = j := by rw [Nat.mul_comm, Nat.mul_add_div h0, Nat.div_eq_of_lt hi, Nat.add_zero]
        have hmod : (j * A.sz + i) % A.sz = i := by rw [Nat.mul_comm, Nat.mul_add_mod, Nat.mod_eq_of_lt hi]
        have hget := get_flatK enc A.sz d' (j * A.sz + i) hlt
        rw [hdiv, hmod, hy] at hget
        rw [if_pos hi, List.getElem?_drop, Array.getElem?_toList, Array.getElem?_eq_getElem (by rw [size_flatK]; exact hlt)]
        rw [getElem!_pos _ _ (by rw [size_flatK]; exact hlt), getElem!_pos _ _ (by rw [hk]; exact hi)] at hget
        rw [hget, List.getElem?_eq_getElem (by rw [hk]; exact hi)]
      · rw [if_neg hi, List.getElem?_eq_none (by rw [hk]; omega)]
    refine .inr ⟨by show 0 < c; omega, _, by simp [Value.ownBlock], ⟨(hC2 ok' w0).1, .inr ⟨gb, c, _, by rw [hyl], Nat.zero_le _, hnew, by rw [hyl]; exact hc', hmx, by simp [putCells, hsz], ?_⟩⟩, hC2 _ _⟩
    rw [hyl, htake]
end
end Go.Proofs.YthfoljpjhegkmaaDoorL
