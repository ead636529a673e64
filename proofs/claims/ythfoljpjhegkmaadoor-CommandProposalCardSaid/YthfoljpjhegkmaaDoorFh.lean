/- strings.Split at a separator of one byte, strconv.Itoa below a hundred: the kit's contracts, over this translation. -/
import Derived.Test.YthfoljpjhegkmaaDoorFk
import Derived.Test.YthfoljpjhegkmaaDoorPl
import Derived.Shelf.Strings.SplitCore
import Derived.Shelf.Strings.Search3
import Derived.Shelf.Strings.Count
import Derived.Shelf.Strconv.Itoa3
import Derived.Lib.IndexBytes
import Derived.Lib.SplitLaws
import Derived.WalkKit
set_option linter.unusedVariables false
set_option linter.unusedSimpArgs false
set_option linter.unnecessarySimpa false
namespace Go.Proofs.YthfoljpjhegkmaaDoor
open Go Go.RowKit Go.Shelf Go.Lib Go.Proofs.YthfoljpjhegkmaaDoorL
def lays171_ren : Go.Shelf.Ren := ⟨fun | 171 => 30 | 243 => 54 | 246 => 65 | 283 => 72 | 284 => 73 | 285 => 74 | 286 => 75 | 129 => 82 | 317 => 81 | 318 => 83 | 319 => 84 | 320 => 85 | 337 => 91 | 338 => 92 | n => n, fun | 3 => 3 | 9 => 9 | 2 => 2 | 4 => 4 | 171 => 104 | 0 => 0 | 53 => 105 | 37 => 43 | 5 => 5 | 173 => 108 | 212 => 116 | 51 => 117 | 20 => 20 | 213 => 118 | 46 => 119 | 232 => 128 | 233 => 129 | n => n, fun | 17 => 0 | 18 => 4 | 19 => 5 | n => n⟩
theorem lays171 : Go.Proofs.Lays.n171 Tryd.prog lays171_ren := {
  mixed := by kernel_rfl
  f129 := Tryd.func82.trans (congrArg some (by kernel_rfl))
  f171 := Tryd.func30.trans (congrArg some (by kernel_rfl))
  f243 := Tryd.func54.trans (congrArg some (by kernel_rfl))
  f246 := Tryd.func65.trans (congrArg some (by kernel_rfl))
  f283 := Tryd.func72.trans (congrArg some (by kernel_rfl))
  f284 := Tryd.func73.trans (congrArg some (by kernel_rfl))
  f285 := Tryd.func74.trans (congrArg some (by kernel_rfl))
  f286 := Tryd.func75.trans (congrArg some (by kernel_rfl))
  f317 := Tryd.func81.trans (congrArg some (by kernel_rfl))
  f318 := Tryd.func83.trans (congrArg some (by kernel_rfl))
  f319 := Tryd.func84.trans (congrArg some (by kernel_rfl))
  f320 := Tryd.func85.trans (congrArg some (by kernel_rfl))
  f337 := Tryd.func91.trans (congrArg some (by kernel_rfl))
  f338 := Tryd.func92.trans (congrArg some (by kernel_rfl))
  t0 := Tryd.underlying0
  a0 := Tryd.isAgg0
  z0 := Tryd.sizeOf0
  v0 := Tryd.zeroValue0
  t2 := Tryd.underlying2
  a2 := Tryd.isAgg2
  z2 := Tryd.sizeOf2
  v2 := Tryd.zeroValue2
  t3 := Tryd.underlying3
  a3 := Tryd.isAgg3
  z3 := Tryd.sizeOf3
  v3 := Tryd.zeroValue3
  t4 := Tryd.underlying4
  a4 := Tryd.isAgg4
  z4 := Tryd.sizeOf4
  v4 := Tryd.zeroValue4
  t5 := Tryd.underlying5
  a5 := Tryd.isAgg5
  z5 := Tryd.sizeOf5
  v5 := Tryd.zeroValue5
  t9 := Tryd.underlying9
  a9 := Tryd.isAgg9
  z9 := Tryd.sizeOf9
  v9 := Tryd.zeroValue9
  t20 := Tryd.underlying20
  a20 := Tryd.isAgg20
  z20 := Tryd.sizeOf20
  v20 := Tryd.zeroValue20
  t37 := Tryd.underlying43
  a37 := Tryd.isAgg43
  z37 := Tryd.sizeOf43
  v37 := Tryd.zeroValue43
  t46 := Tryd.underlying119
  a46 := Tryd.isAgg119
  z46 := Tryd.sizeOf119
  v46 := Tryd.zeroValue119
  t51 := Tryd.underlying117
  a51 := Tryd.isAgg117
  z51 := Tryd.sizeOf117
  v51 := Tryd.zeroValue117
  t53 := Tryd.underlying105
  a53 := Tryd.isAgg105
  z53 := Tryd.sizeOf105
  v53 := Tryd.zeroValue105
  t171 := Tryd.underlying104
  a171 := Tryd.isAgg104
  z171 := Tryd.sizeOf104
  v171 := Tryd.zeroValue104
  t173 := Tryd.underlying108
  a173 := Tryd.isAgg108
  z173 := Tryd.sizeOf108
  v173 := Tryd.zeroValue108
  t212 := Tryd.underlying116
  a212 := Tryd.isAgg116
  z212 := Tryd.sizeOf116
  v212 := Tryd.zeroValue116
  t213 := Tryd.underlying118
  a213 := Tryd.isAgg118
  z213 := Tryd.sizeOf118
  t232 := Tryd.underlying128
  a232 := Tryd.isAgg128
  z232 := Tryd.sizeOf128
  v232 := Tryd.zeroValue128
  t233 := Tryd.underlying129
  a233 := Tryd.isAgg129
  z233 := Tryd.sizeOf129
  v233 := Tryd.zeroValue129
  g17 := by kernel_rfl
  g18 := by kernel_rfl
  g19 := by kernel_rfl }
def lays146_ren : Go.Shelf.Ren := ⟨fun | 146 => 36 | 221 => 55 | 268 => 66 | 138 => 67 | 143 => 68 | 195 => 76 | 197 => 77 | 218 => 78 | 219 => 79 | 260 => 86 | 217 => 87 | 225 => 88 | 224 => 89 | 267 => 90 | 266 => 93 | 314 => 94 | n => n, fun | 9 => 9 | 31 => 44 | 3 => 3 | 4 => 4 | 0 => 0 | 105 => 110 | 21 => 21 | 5 => 5 | 46 => 119 | 119 => 122 | 139 => 125 | 138 => 124 | 146 => 126 | 51 => 117 | n => n, fun | 1 => 1 | 3 => 2 | 4 => 3 | n => n⟩
theorem lays146 : Go.Proofs.Lays.n146 Tryd.prog lays146_ren := {
  mixed := by kernel_rfl
  f138 := Tryd.func67.trans (congrArg some (by kernel_rfl))
  f143 := Tryd.func68.trans (congrArg some (by kernel_rfl))
  f146 := Tryd.func36.trans (congrArg some (by kernel_rfl))
  f195 := Tryd.func76.trans (congrArg some (by kernel_rfl))
  f197 := Tryd.func77.trans (congrArg some (by kernel_rfl))
  f217 := Tryd.func87.trans (congrArg some (by kernel_rfl))
  f218 := Tryd.func78.trans (congrArg some (by kernel_rfl))
  f219 := Tryd.func79.trans (congrArg some (by kernel_rfl))
  f221 := Tryd.func55.trans (congrArg some (by kernel_rfl))
  f224 := Tryd.func89.trans (congrArg some (by kernel_rfl))
  f225 := Tryd.func88.trans (congrArg some (by kernel_rfl))
  f260 := Tryd.func86.trans (congrArg some (by kernel_rfl))
  f266 := Tryd.func93.trans (congrArg some (by kernel_rfl))
  f267 := Tryd.func90.trans (congrArg some (by kernel_rfl))
  f268 := Tryd.func66.trans (congrArg some (by kernel_rfl))
  f314 := Tryd.func94.trans (congrArg some (by kernel_rfl))
  t0 := Tryd.underlying0
  a0 := Tryd.isAgg0
  z0 := Tryd.sizeOf0
  v0 := Tryd.zeroValue0
  t3 := Tryd.underlying3
  a3 := Tryd.isAgg3
  z3 := Tryd.sizeOf3
  v3 := Tryd.zeroValue3
  t4 := Tryd.underlying4
  a4 := Tryd.isAgg4
  z4 := Tryd.sizeOf4
  v4 := Tryd.zeroValue4
  t5 := Tryd.underlying5
  a5 := Tryd.isAgg5
  z5 := Tryd.sizeOf5
  v5 := Tryd.zeroValue5
  t9 := Tryd.underlying9
  a9 := Tryd.isAgg9
  z9 := Tryd.sizeOf9
  v9 := Tryd.zeroValue9
  t21 := Tryd.underlying21
  a21 := Tryd.isAgg21
  z21 := Tryd.sizeOf21
  v21 := Tryd.zeroValue21
  t31 := Tryd.underlying44
  a31 := Tryd.isAgg44
  z31 := Tryd.sizeOf44
  v31 := Tryd.zeroValue44
  t46 := Tryd.underlying119
  a46 := Tryd.isAgg119
  z46 := Tryd.sizeOf119
  v46 := Tryd.zeroValue119
  t51 := Tryd.underlying117
  a51 := Tryd.isAgg117
  z51 := Tryd.sizeOf117
  v51 := Tryd.zeroValue117
  t105 := Tryd.underlying110
  a105 := Tryd.isAgg110
  z105 := Tryd.sizeOf110
  v105 := Tryd.zeroValue110
  t119 := Tryd.underlying122
  a119 := Tryd.isAgg122
  z119 := Tryd.sizeOf122
  t138 := Tryd.underlying124
  a138 := Tryd.isAgg124
  z138 := Tryd.sizeOf124
  v138 := Tryd.zeroValue124
  t139 := Tryd.underlying125
  a139 := Tryd.isAgg125
  z139 := Tryd.sizeOf125
  v139 := Tryd.zeroValue125
  t146 := Tryd.underlying126
  a146 := Tryd.isAgg126
  z146 := Tryd.sizeOf126
  v146 := Tryd.zeroValue126
  g1 := by kernel_rfl
  g3 := by kernel_rfl
  g4 := by kernel_rfl }

section
variable {P : Program} {ρ : Ren}
set_option maxHeartbeats 1000000 in
theorem genSplit1 (L : Go.Proofs.Lays.n221 P ρ) (hi9 : (P.info? (ρ.t 9)).map (fun i => (i.zero, i.size, i.bytes)) = some (some (.string ByteArray.empty), 1, 16)) (s : ByteArray) (c : UInt8) (w : World) (hs : s.size < 4294967281) :
    Calls P (ρ.f 221) #[.string s, .string ⟨#[c]⟩, .int .i64 ((0 : Nat) : Int), .int .i64 (-1)] w fun e w' =>
      e = .returned (.slice (some ⟨w.heap.size, 0, none⟩) (Lib.splitB ⟨#[c]⟩ 0 (Lib.countB s ⟨#[c]⟩ + 1 - 1) s).length (Lib.countB s ⟨#[c]⟩ + 1)) ∧ w' = w.alloc (.cells (Lib.cellsOf (Lib.splitB ⟨#[c]⟩ 0 (Lib.countB s ⟨#[c]⟩ + 1 - 1) s) (Lib.countB s ⟨#[c]⟩ + 1)) (ρ.t 9)) := by
  have hle := Lib.countB_le ⟨#[c]⟩ (Nat.le_refl 1) s.size s (Nat.le_refl _)
  refine Go.Proofs.Any.strings_genSplit_core L hi9 s ⟨#[c]⟩ 0 (-1) (Lib.countB s ⟨#[c]⟩ + 1) w hs (Nat.le_refl 1) (Nat.zero_le _) (fun x cs hx => ?_) ?_ (by decide) (by decide) (by rw [if_pos (by decide)]; omega)
  · refine (Go.Proofs.Any.strings_Index_one { L with } x c _).mono fun e w' ⟨he, hw⟩ => ⟨?_, hw⟩
    rw [he]
    show _ = Ending.returned (Value.int .i64 (Lib.index x.data.toList [c]))
    rw [Lib.index_one]
  · refine (Go.Proofs.Any.strings_Count_one { L with } s c w).mono fun e w' ⟨he, hw⟩ => ⟨?_, hw⟩
    rw [he]
    show _ = Ending.returned (Value.int .i64 ((Lib.count s.data.toList [c] : Nat) : Int))
    rw [Lib.count_one]
    rfl
set_option maxHeartbeats 1000000 in
theorem split1 (L : Go.Proofs.Lays.n146 P ρ) (hi9 : (P.info? (ρ.t 9)).map (fun i => (i.zero, i.size, i.bytes)) = some (some (.string ByteArray.empty), 1, 16)) (s : ByteArray) (c : UInt8) (w : World) (hs : s.size < 4294967281) :
    Calls P (ρ.f 146) #[.string s, .string ⟨#[c]⟩] w fun e w' =>
      e = .returned (.slice (some ⟨w.heap.size, 0, none⟩) (Lib.countB s ⟨#[c]⟩ + 1) (Lib.countB s ⟨#[c]⟩ + 1)) ∧ w' = w.alloc (.cells ((Lib.splitB ⟨#[c]⟩ 0 (Lib.countB s ⟨#[c]⟩) s).map Value.string).toArray (ρ.t 9)) := by
  have hlen := Lib.splitB_all ⟨#[c]⟩ (Nat.le_refl 1) 0 _ s rfl
  have c0 := genSplit1 { L with } hi9 s c w hs
  rw [Nat.add_sub_cancel, hlen] at c0
  have e2 : Lib.cellsOf (Lib.splitB ⟨#[c]⟩ 0 (Lib.countB s ⟨#[c]⟩) s) (Lib.countB s ⟨#[c]⟩ + 1) = ((Lib.splitB ⟨#[c]⟩ 0 (Lib.countB s ⟨#[c]⟩) s).map Value.string).toArray := by rw [← hlen]; exact Lib.cellsOf_full _
  rw [e2] at c0
  have t3 := L.t3; have t9 := L.t9; have t31 := L.t31
  have a3 := L.a3; have a9 := L.a9; have a31 := L.a31
  have z3 := L.z3; have v3 := L.v3; have z9 := L.z9; have v9 := L.v9; have z31 := L.z31; have v31 := L.v31
  have e221 : ∀ args w, (callFunc (ρ.f 221) args).run P w = .ok (.enter (ρ.f 221) args) w := enters_of L.f221 (by kernel_rfl) rfl
  go_enter L.f146, Go.Proofs.Body.n146_ntmps ρ
  go_wp2_with (go_at_fn (ρ.f 221); refine c0.mono ?_; rintro e w' ⟨rfl, hw⟩; rw [hw])
  go_ret
  exact ⟨rfl, rfl⟩
end
theorem splitK_spl (c : UInt8) : ∀ s : List UInt8, Lib.splitK [c] 0 (s.count c) s = spl c s
  | [] => rfl
  | b :: l => by
    have ih := splitK_spl c l
    by_cases hb : b = c
    · subst hb
      rw [List.count_cons_self, Lib.splitK, Lib.index_one, Lib.indexByte]
      simp only [beq_self_eq_true, if_true]
      rw [spl, if_pos rfl, ← ih]
      rfl
    · rw [List.count_cons_of_ne (fun h => hb h), spl, if_neg hb, ← ih]
      cases hk : l.count c with
      | zero => rfl
      | succ k =>
        have hb' : (b == c) = false := by simpa using hb
        have hin : Lib.indexByte l c ≠ -1 := by
          intro h
          have : ∀ l : List UInt8, Lib.indexByte l c = -1 → l.count c = 0 := by
            intro l
            induction l with
            | nil => intro _; rfl
            | cons x l ih2 =>
              intro h
              rw [Lib.indexByte] at h
              split at h
              · cases h
              · rename_i hx
                split at h
                · rename_i h2
                  rw [List.count_cons_of_ne (fun e => hx (by simp [e])), ih2 (by simpa using h2)]
                · rename_i h2
                  have := Lib.indexByte_ge l c
                  simp at h2
                  omega
          rw [this l h] at hk
          cases hk
        have hge := Lib.indexByte_ge l c
        rw [Lib.splitK, Lib.splitK, Lib.index_one, Lib.index_one, Lib.indexByte, hb']
        simp only [Bool.false_eq_true, if_false]
        have h1 : (Lib.indexByte l c == -1) = false := by simpa using hin
        rw [h1]
        simp only [Bool.false_eq_true, if_false]
        have h2 : (Lib.indexByte l c + 1 == -1) = false := by rw [beq_eq_false_iff_ne]; omega
        rw [h2]
        simp only [Bool.false_eq_true, if_false, Nat.add_zero, List.length_singleton]
        have h3 : (Lib.indexByte l c + 1).toNat = (Lib.indexByte l c).toNat + 1 := by omega
        rw [h3]
        rfl
theorem strings_Split.calls {ok : Nat → Prop} {w0 : World} {x1 x2 : List UInt8} {r : List (List UInt8)} (hf : strings_Split x1 x2 = some r) :
    Calls Tryd.prog 36 #[bstr x1, bstr x2] w0 fun e w' => ∃ v, e = .returned v ∧ ∃ y : Option Addr × Nat, v = .slice y.1 r.length y.2 ∧ St ok (bz w0) w' [vl (tSlice tStr) r (.slice y.1 r.length y.2)] [] := by
  unfold strings_Split at hf
  obtain ⟨⟨h1, h2⟩, h3⟩ := guardE hf
  cases h3
  obtain ⟨c, rfl⟩ := List.length_eq_one_iff.1 h1
  have hs : (⟨x1.toArray⟩ : ByteArray).size < 4294967281 := by simpa [ByteArray.size] using h2
  have hsplit : (Lib.splitB ⟨#[c]⟩ 0 (Lib.countB ⟨x1.toArray⟩ ⟨#[c]⟩) ⟨x1.toArray⟩).map (·.data.toList) = spl c x1 := by
    rw [Lib.splitB_data, ← splitK_spl]
    show Lib.splitK [c] 0 (Lib.count x1 [c]) x1 = _
    rw [Lib.count_one]; first | done | rfl
  have hlen : Lib.countB ⟨x1.toArray⟩ ⟨#[c]⟩ + 1 = (spl c x1).length := by
    rw [← hsplit, List.length_map, Lib.splitB_all ⟨#[c]⟩ (Nat.le_refl 1) 0 _ _ rfl]
  have hcells : (Lib.splitB ⟨#[c]⟩ 0 (Lib.countB ⟨x1.toArray⟩ ⟨#[c]⟩) ⟨x1.toArray⟩).map Value.string = (spl c x1).map bstr := by
    rw [← hsplit, List.map_map]
    refine List.map_congr_left fun x hx => ?_
    simp [bstr, Function.comp]
  refine (split1 lays146 (by kernel_rfl) ⟨x1.toArray⟩ c w0 hs).mono ?_
  rintro e w' ⟨he, hw⟩
  rw [hlen] at he
  rw [hcells] at hw
  refine ⟨_, he, (some ⟨w0.heap.size, 0, none⟩, (spl c x1).length), rfl, ?_⟩
  subst hw
  have hp : 0 < (spl c x1).length := by omega
  have hs0 : St ok (bz w0) w0 [] [] := St.init All.nil
  have hle : (spl c x1).length ≤ 9223372036854775807 := by
    have := Lib.countB_le ⟨#[c]⟩ (Nat.le_refl 1) (⟨x1.toArray⟩ : ByteArray).size ⟨x1.toArray⟩ (Nat.le_refl _)
    omega
  have hC : ∀ (ok : Nat → Prop) (w : World), Cells tStr ok w (spl c x1) ((spl c x1).map bstr) := by
    intro ok w
    refine ⟨by rw [List.length_map]; show _ = _ * 1; omega, fun j x hx => ?_⟩
    show _ = [bstr x]
    have hj := (List.getElem?_eq_some_iff.1 hx).1
    have e1 : ((spl c x1).map bstr).drop (j * tStr.sz) = bstr x :: ((spl c x1).map bstr).drop (j + 1) := by
      show ((spl c x1).map bstr).drop (j * 1) = _
      rw [Nat.mul_one, List.drop_eq_getElem_cons (by simpa using hj)]
      congr 1
      rw [List.getElem_map, (List.getElem?_eq_some_iff.1 hx).2]
    rw [e1]
    rfl
  have h1 : St ok (bz w0) (w0.alloc (.cells ((spl c x1).map bstr).toArray 9)) [] (own tStr 9 (.slice (some ⟨w0.heap.size, 0, none⟩) (spl c x1).length (spl c x1).length) (spl c x1) :: []) :=
    hs0.new (below_alloc w0 _) (bs := [w0.heap.size]) (by simp) (by simp [size_alloc]) fun ok ok1 hA hsub => by
      have hC1 := hC ok (w0.alloc (.cells ((spl c x1).map bstr).toArray 9))
      exact .inr ⟨hp, _, by simp [Value.ownBlock], ⟨hC1.1, .inr ⟨w0.heap.size, (spl c x1).length, ((spl c x1).map bstr).toArray, rfl, Nat.zero_le _, heap_new w0 _, Nat.le_refl _, hle, by simp [hC1.1], by rw [List.take_of_length_le (by rw [List.length_map]; show _ ≤ _ * 1; omega)]⟩⟩, hC1⟩
  exact h1.freezeOwn 0 rfl
theorem dec2_eq : ∀ n : Nat, n < 100 → Lib.decDigits n = dec2 n := by decide +kernel
theorem strconv_Itoa.calls {ok : Nat → Prop} {w0 : World} {x1 : Int} {r : List UInt8} (hf : strconv_Itoa x1 = some r) :
    Calls Tryd.prog 30 #[.int .i64 x1] w0 fun e w' => ∃ v, e = .returned v ∧ ∃ y : Unit, v = bstr r ∧ St ok (bz w0) w' [] [] := by
  unfold strconv_Itoa at hf
  obtain ⟨⟨h1, h2⟩, h3⟩ := guardE hf
  cases h3
  obtain ⟨n, rfl⟩ := Int.eq_ofNat_of_zero_le h1
  refine (Go.Proofs.Any.strconv_Itoa_small lays171 n (by omega) w0).mono ?_
  rintro e w' ⟨he, rfl⟩
  refine ⟨_, he, (), ?_, St.init All.nil⟩
  rw [dec2_eq n (by omega)]
  rfl
end Go.Proofs.YthfoljpjhegkmaaDoor
