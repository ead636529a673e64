import Derived.Test.YthfoljpjhegkmaaDoorFh
import Derived.Test.YthfoljpjhegkmaaDoorFp8
import Derived.Test.YthfoljpjhegkmaaDoorFp9
set_option linter.unusedVariables false
set_option linter.unusedSimpArgs false
namespace Go.Proofs.YthfoljpjhegkmaaDoor
open Go Go.RowKit Go.Proofs.YthfoljpjhegkmaaDoorL
set_option maxRecDepth 100000
set_option maxHeartbeats 4000000
/-! elasticstore/elasticstoreref10.Join: function 21 -/
theorem esref10_Join.calls {ok : Nat → Prop} {w0 : World} {x1 : api_Summary} {x5 : api_Summary} {v2 : Value} {v6 : Value} {r : api_Summary} (hf : esref10_Join x1 x5 = some r) (i0 : (vl t_api_Summary x1 v2).holds ok w0) (i1 : (vl t_api_Summary x5 v6).holds ok w0) :
    Calls Tryd.prog 21 #[v2, v6] w0 fun e w' => ∃ v, e = .returned v ∧ ∃ y : List Value, v = .agg y.toArray ∧ St ok (bz w0) w' [vl t_api_Summary r (.agg y.toArray)] [] := by
  unfold esref10_Join at hf
  refine calls_of_W (fn := Tryd.f21) (N := 102) Tryd.func21 rfl Tryd.ntmps21 rfl ?_
  have hs : St ok (bz w0) w0 [vl t_api_Summary x1 v2, vl t_api_Summary x5 v6] [] := St.init (All.cons i0 (All.cons i1 All.nil))
  clear i0 i1
  obtain ⟨cs3, hl4, rfl⟩ := hs.aggv (n := 9) 0 rfl rfl rfl
  obtain ⟨cs7, hl8, rfl⟩ := hs.aggv (n := 9) 1 rfl rfl rfl
  refine W.seqK fun K9 hK9 => ?_
  refine W.region ?_
  refine WL.box (vs := cs3) hs rfl rfl (fun g10 w hs => ?_)
  refine WL.box (vs := cs7) hs rfl rfl (fun g11 w hs => ?_)
  refine WL.alloc hs ZV36 (fun g12 w hs => ?_)
  refine WL.nil ?_
  refine hK9 _ _ ?_
  refine W.seqK fun K13 hK13 => ?_
  refine W.region ?_
  refine WL.loadAll hs 2 rfl TI36 rfl hl4 ?_
  refine WL.alloc hs ZV36 (fun g14 w hs => ?_)
  obtain ⟨a15, c16, a17, c18, a19, c20, rfl⟩ := open_api_Summary hs 0 rfl
  have hs := hs.add (it := vl (tSlice (tInt .i64)) x1.Joined (.slice a15 (x1.Joined).length c16)) fun ok hA => V_fld F_api_Summary_Joined (hA.get 0 rfl) rfl rfl rfl
  have hs := hs.add (it := vl (tSlice (tInt .i64)) x1.Removed (.slice a17 (x1.Removed).length c18)) fun ok hA => V_fld F_api_Summary_Removed (hA.get 1 rfl) rfl rfl rfl
  have hs := hs.add (it := vl (tSlice t_api_WeightEntry) x1.Weights (.slice a19 (x1.Weights).length c20)) fun ok hA => V_fld F_api_Summary_Weights (hA.get 2 rfl) rfl rfl rfl
  refine WL.storeAll (vs := [.slice a15 (x1.Joined).length c16, .slice a17 (x1.Removed).length c18, .slice a19 (x1.Weights).length c20, .int .i64 x1.Rule.Kind, .int .i64 x1.Rule.Columns, .int .i64 x1.Rule.Faulty, .int .i64 x1.Version, .int .i64 x1.Admin, .int .i64 x1.Number]) hs 0 rfl TI36 rfl rfl rfl rfl (ones_of rfl) rfl (fun w hs => ?_)
  refine WL.nil ?_
  refine hK13 _ _ ?_
  refine W.seqK fun K21 hK21 => ?_
  have Jk26 : ∀ (x23 : List Int) (a24 : Option Addr) (c25 : Nat) (ρ : Env) (w : World), ρ 2 = .pointer (some ⟨g10, 0, none⟩) → ρ 3 = .pointer (some ⟨g11, 0, none⟩) → ρ 4 = .pointer (some ⟨g12, 0, none⟩) → ρ 5 = .pointer (some ⟨g14, 0, none⟩) → St ok (bz w0) w [vl (tSlice (tInt .i64)) x23 (.slice a24 x23.length c25), vl (tSlice (tInt .i64)) x1.Removed (.slice a17 (x1.Removed).length c18), vl (tSlice t_api_WeightEntry) x1.Weights (.slice a19 (x1.Weights).length c20), vl t_api_Summary x5 (.agg cs7.toArray), vl (tSlice (tInt .i64)) x1.Joined (.slice a15 (x1.Joined).length c16)] [blk g14 36 [.slice a24 x23.length c25, .slice a17 (x1.Removed).length c18, .slice a19 (x1.Weights).length c20, .int .i64 x1.Rule.Kind, .int .i64 x1.Rule.Columns, .int .i64 x1.Rule.Faulty, .int .i64 x1.Version, .int .i64 x1.Admin, .int .i64 x1.Number], blk g12 36 [.slice none 0 0, .slice none 0 0, .slice none 0 0, .int .i64 0, .int .i64 0, .int .i64 0, .int .i64 0, .int .i64 0, .int .i64 0], blk g11 36 cs7, blk g10 36 [.slice a15 (x1.Joined).length c16, .slice a17 (x1.Removed).length c18, .slice a19 (x1.Weights).length c20, .int .i64 x1.Rule.Kind, .int .i64 x1.Rule.Columns, .int .i64 x1.Rule.Faulty, .int .i64 x1.Version, .int .i64 x1.Admin, .int .i64 x1.Number]] → esref10_Join.j5 x1 x5 x23 = some r → K21 ρ w := by
    intro x23 a24 c25 ρ w h22_2 h22_3 h22_4 h22_5 hs hf
    refine hK21 _ _ ?_
    unfold esref10_Join.j5 at hf
    refine W.seqK fun K27 hK27 => ?_
    have Jk32 : ∀ (x29 : List Int) (a30 : Option Addr) (c31 : Nat) (ρ : Env) (w : World), ρ 2 = .pointer (some ⟨g10, 0, none⟩) → ρ 3 = .pointer (some ⟨g11, 0, none⟩) → ρ 4 = .pointer (some ⟨g12, 0, none⟩) → ρ 5 = .pointer (some ⟨g14, 0, none⟩) → St ok (bz w0) w [vl (tSlice (tInt .i64)) x23 (.slice a24 x23.length c25), vl (tSlice (tInt .i64)) x29 (.slice a30 x29.length c31), vl (tSlice t_api_WeightEntry) x1.Weights (.slice a19 (x1.Weights).length c20), vl t_api_Summary x5 (.agg cs7.toArray), vl (tSlice (tInt .i64)) x1.Joined (.slice a15 (x1.Joined).length c16), vl (tSlice (tInt .i64)) x1.Removed (.slice a17 (x1.Removed).length c18)] [blk g14 36 [.slice a24 x23.length c25, .slice a30 x29.length c31, .slice a19 (x1.Weights).length c20, .int .i64 x1.Rule.Kind, .int .i64 x1.Rule.Columns, .int .i64 x1.Rule.Faulty, .int .i64 x1.Version, .int .i64 x1.Admin, .int .i64 x1.Number], blk g12 36 [.slice none 0 0, .slice none 0 0, .slice none 0 0, .int .i64 0, .int .i64 0, .int .i64 0, .int .i64 0, .int .i64 0, .int .i64 0], blk g11 36 cs7, blk g10 36 [.slice a15 (x1.Joined).length c16, .slice a17 (x1.Removed).length c18, .slice a19 (x1.Weights).length c20, .int .i64 x1.Rule.Kind, .int .i64 x1.Rule.Columns, .int .i64 x1.Rule.Faulty, .int .i64 x1.Version, .int .i64 x1.Admin, .int .i64 x1.Number]] → esref10_Join.j4 x1 x5 x23 x29 = some r → K27 ρ w := by
      intro x29 a30 c31 ρ w h28_2 h28_3 h28_4 h28_5 hs hf
      refine hK27 _ _ ?_
      unfold esref10_Join.j4 at hf
      refine W.seqK fun K33 hK33 => ?_
      have Jk38 : ∀ (x35 : List api_WeightEntry) (a36 : Option Addr) (c37 : Nat) (ρ : Env) (w : World), ρ 2 = .pointer (some ⟨g10, 0, none⟩) → ρ 3 = .pointer (some ⟨g11, 0, none⟩) → ρ 4 = .pointer (some ⟨g12, 0, none⟩) → ρ 5 = .pointer (some ⟨g14, 0, none⟩) → St ok (bz w0) w [vl (tSlice (tInt .i64)) x23 (.slice a24 x23.length c25), vl (tSlice (tInt .i64)) x29 (.slice a30 x29.length c31), vl (tSlice t_api_WeightEntry) x35 (.slice a36 x35.length c37), vl t_api_Summary x5 (.agg cs7.toArray), vl (tSlice (tInt .i64)) x1.Joined (.slice a15 (x1.Joined).length c16), vl (tSlice (tInt .i64)) x1.Removed (.slice a17 (x1.Removed).length c18), vl (tSlice t_api_WeightEntry) x1.Weights (.slice a19 (x1.Weights).length c20)] [blk g14 36 [.slice a24 x23.length c25, .slice a30 x29.length c31, .slice a36 x35.length c37, .int .i64 x1.Rule.Kind, .int .i64 x1.Rule.Columns, .int .i64 x1.Rule.Faulty, .int .i64 x1.Version, .int .i64 x1.Admin, .int .i64 x1.Number], blk g12 36 [.slice none 0 0, .slice none 0 0, .slice none 0 0, .int .i64 0, .int .i64 0, .int .i64 0, .int .i64 0, .int .i64 0, .int .i64 0], blk g11 36 cs7, blk g10 36 [.slice a15 (x1.Joined).length c16, .slice a17 (x1.Removed).length c18, .slice a19 (x1.Weights).length c20, .int .i64 x1.Rule.Kind, .int .i64 x1.Rule.Columns, .int .i64 x1.Rule.Faulty, .int .i64 x1.Version, .int .i64 x1.Admin, .int .i64 x1.Number]] → esref10_Join.j3 x1 x5 x23 x29 x35 = some r → K33 ρ w := by
        intro x35 a36 c37 ρ w h34_2 h34_3 h34_4 h34_5 hs hf
        refine hK33 _ _ ?_
        unfold esref10_Join.j3 at hf
        refine W.seqK fun K39 hK39 => ?_
        refine W.region ?_
        refine WL.fieldAddr (m := 6) h34_2 FA36_4 rfl ?_
        refine WL.load1 (v := .int .i64 x1.Version) hs 3 rfl TI3 rfl rfl ?_
        refine WL.fieldAddr (m := 7) h34_2 FA36_5 rfl ?_
        refine WL.load1 (v := .int .i64 x1.Admin) hs 3 rfl TI3 rfl rfl ?_
        refine WL.fieldAddr (m := 8) h34_2 FA36_6 rfl ?_
        refine WL.load1 (v := .int .i64 x1.Number) hs 3 rfl TI3 rfl rfl ?_
        refine WL.build (vs := [(2, .int .i64 x1.Version), (3, .int .i64 x1.Admin), (4, .int .i64 x1.Number)]) (cs := [.int .i64 0, .int .i64 0, .int .i64 x1.Version, .int .i64 x1.Admin, .int .i64 x1.Number]) ⟨⟨rfl, rfl⟩, ⟨⟨rfl, rfl⟩, ⟨⟨rfl, rfl⟩, trivial⟩⟩⟩ (bld PL59 rfl) ?_
        refine WL.alloc hs ZV59 (fun g40 w hs => ?_)
        refine WL.storeAll (vs := [.int .i64 0, .int .i64 0, .int .i64 x1.Version, .int .i64 x1.Admin, .int .i64 x1.Number]) hs 0 rfl TI59 rfl rfl rfl rfl (ones_of rfl) rfl (fun w hs => ?_)
        refine WL.nil ?_
        refine hK39 _ _ ?_
        refine W.seqK fun K41 hK41 => ?_
        refine W.region ?_
        refine WL.fieldAddr (m := 6) h34_3 FA36_4 rfl ?_
        refine WL.loadF (z := x5.Version) F_api_Summary_Version hs 3 rfl 3 rfl rfl TI3 (.inr rfl) rfl rfl (fun v42 hs => ?_)
        obtain rfl := hs.int 0 rfl
        refine WL.fieldAddr (m := 7) h34_3 FA36_5 rfl ?_
        refine WL.loadF (z := x5.Admin) F_api_Summary_Admin hs 3 rfl 4 rfl rfl TI3 (.inr rfl) rfl rfl (fun v43 hs => ?_)
        obtain rfl := hs.int 0 rfl
        refine WL.fieldAddr (m := 8) h34_3 FA36_6 rfl ?_
        refine WL.loadF (z := x5.Number) F_api_Summary_Number hs 3 rfl 5 rfl rfl TI3 (.inr rfl) rfl rfl (fun v44 hs => ?_)
        obtain rfl := hs.int 0 rfl
        refine WL.build (vs := [(2, .int .i64 x5.Version), (3, .int .i64 x5.Admin), (4, .int .i64 x5.Number)]) (cs := [.int .i64 0, .int .i64 0, .int .i64 x5.Version, .int .i64 x5.Admin, .int .i64 x5.Number]) ⟨⟨rfl, rfl⟩, ⟨⟨rfl, rfl⟩, ⟨⟨rfl, rfl⟩, trivial⟩⟩⟩ (bld PL59 rfl) ?_
        refine WL.alloc hs ZV59 (fun g45 w hs => ?_)
        refine WL.storeAll (vs := [.int .i64 0, .int .i64 0, .int .i64 x5.Version, .int .i64 x5.Admin, .int .i64 x5.Number]) hs 0 rfl TI59 rfl rfl rfl rfl (ones_of rfl) rfl (fun w hs => ?_)
        refine WL.nil ?_
        refine hK41 _ _ ?_
        refine W.seqK fun K46 hK46 => ?_
        have Jk54 : ∀ (x48 : Int) (x49 : Int) (x50 : Int) (x51 : Int) (x52 : Int) (x53 : Int) (ρ : Env) (w : World), ρ 4 = .pointer (some ⟨g12, 0, none⟩) → ρ 5 = .pointer (some ⟨g14, 0, none⟩) → St ok (bz w0) w [vl (tSlice (tInt .i64)) x23 (.slice a24 x23.length c25), vl (tSlice (tInt .i64)) x29 (.slice a30 x29.length c31), vl (tSlice t_api_WeightEntry) x35 (.slice a36 x35.length c37)] [blk g14 36 [.slice a24 x23.length c25, .slice a30 x29.length c31, .slice a36 x35.length c37, .int .i64 x48, .int .i64 x49, .int .i64 x50, .int .i64 x51, .int .i64 x52, .int .i64 x53], blk g12 36 [.slice none 0 0, .slice none 0 0, .slice none 0 0, .int .i64 0, .int .i64 0, .int .i64 0, .int .i64 0, .int .i64 0, .int .i64 0]] → esref10_Join.j1 x23 x29 x35 x48 x49 x50 x51 x52 x53 = some r → K46 ρ w := by
          intro x48 x49 x50 x51 x52 x53 ρ w h47_4 h47_5 hs hf
          refine hK46 _ _ ?_
          unfold esref10_Join.j1 at hf
          refine W.seqK fun K55 hK55 => ?_
          refine W.region ?_
          refine WL.loadN (vs := [.slice a24 x23.length c25, .slice a30 x29.length c31, .slice a36 x35.length c37, .int .i64 x48, .int .i64 x49, .int .i64 x50, .int .i64 x51, .int .i64 x52, .int .i64 x53]) hs 0 rfl TI36 h47_5 rfl rfl ?_
          refine WL.storeAll (vs := [.slice a24 x23.length c25, .slice a30 x29.length c31, .slice a36 x35.length c37, .int .i64 x48, .int .i64 x49, .int .i64 x50, .int .i64 x51, .int .i64 x52, .int .i64 x53]) hs 1 rfl TI36 h47_4 rfl rfl rfl (ones_of rfl) rfl (fun w hs => ?_)
          refine WL.nil ?_
          refine hK55 _ _ ?_
          refine W.ret ?_
          have hr := Option.some.inj hf; subst hr
          have hs := hs.add (it := vl t_api_Summary (⟨x23, x29, x35, (⟨x48, x49, x50⟩ : api_Rule), x51, x52, x53⟩ : api_Summary) (.agg [.slice a24 x23.length c25, .slice a30 x29.length c31, .slice a36 x35.length c37, .int .i64 x48, .int .i64 x49, .int .i64 x50, .int .i64 x51, .int .i64 x52, .int .i64 x53].toArray)) fun ok hA => V_agg (show t_api_Summary.R ok _ _ _ from ⟨[.slice a24 x23.length c25], [.slice a30 x29.length c31, .slice a36 x35.length c37, .int .i64 x48, .int .i64 x49, .int .i64 x50, .int .i64 x51, .int .i64 x52, .int .i64 x53], rfl, (R_one (hA.get 0 rfl)), ⟨[.slice a30 x29.length c31], [.slice a36 x35.length c37, .int .i64 x48, .int .i64 x49, .int .i64 x50, .int .i64 x51, .int .i64 x52, .int .i64 x53], rfl, (R_one (hA.get 1 rfl)), ⟨[.slice a36 x35.length c37], [.int .i64 x48, .int .i64 x49, .int .i64 x50, .int .i64 x51, .int .i64 x52, .int .i64 x53], rfl, (R_one (hA.get 2 rfl)), ⟨[.int .i64 x48, .int .i64 x49, .int .i64 x50], [.int .i64 x51, .int .i64 x52, .int .i64 x53], rfl, ⟨[.int .i64 x48], [.int .i64 x49, .int .i64 x50], rfl, rfl, ⟨[.int .i64 x49], [.int .i64 x50], rfl, rfl, rfl⟩⟩, ⟨[.int .i64 x51], [.int .i64 x52, .int .i64 x53], rfl, rfl, ⟨[.int .i64 x52], [.int .i64 x53], rfl, rfl, rfl⟩⟩⟩⟩⟩⟩) rfl
          exact ⟨_, resOk_one rfl (res_all hs 1 rfl TI36 h47_4 rfl), [.slice a24 x23.length c25, .slice a30 x29.length c31, .slice a36 x35.length c37, .int .i64 x48, .int .i64 x49, .int .i64 x50, .int .i64 x51, .int .i64 x52, .int .i64 x53], rfl, (hs.mask []).pick [0]⟩
        refine W.seqK fun K56 hK56 => ?_
        have Jk59 : ∀ (x58 : Bool) (ρ : Env) (w : World), ρ 3 = .pointer (some ⟨g11, 0, none⟩) → ρ 4 = .pointer (some ⟨g12, 0, none⟩) → ρ 5 = .pointer (some ⟨g14, 0, none⟩) → ρ 88 = .bool x58 → St ok (bz w0) w [vl (tSlice (tInt .i64)) x23 (.slice a24 x23.length c25), vl (tSlice (tInt .i64)) x29 (.slice a30 x29.length c31), vl (tSlice t_api_WeightEntry) x35 (.slice a36 x35.length c37), vl t_api_Summary x5 (.agg cs7.toArray)] [blk g14 36 [.slice a24 x23.length c25, .slice a30 x29.length c31, .slice a36 x35.length c37, .int .i64 x1.Rule.Kind, .int .i64 x1.Rule.Columns, .int .i64 x1.Rule.Faulty, .int .i64 x1.Version, .int .i64 x1.Admin, .int .i64 x1.Number], blk g12 36 [.slice none 0 0, .slice none 0 0, .slice none 0 0, .int .i64 0, .int .i64 0, .int .i64 0, .int .i64 0, .int .i64 0, .int .i64 0], blk g11 36 cs7] → esref10_Join.j2 x1 x5 x23 x29 x35 x58 = some r → K56 ρ w := by
          intro x58 ρ w h57_3 h57_4 h57_5 h57_88 hs hf
          refine hK56 _ _ ?_
          unfold esref10_Join.j2 at hf
          rcases iteE hf with ⟨hc60, hf⟩ | ⟨hc60, hf⟩
          {
          refine W.cond_true (bool_tr h57_88 hc60) ?_
          refine W.seqK fun K61 hK61 => ?_
          refine W.region ?_
          refine WL.fieldAddr (m := 3) h57_3 FA36_3 rfl ?_
          refine WL.loadF (z := x5.Rule) F_api_Summary_Rule hs 2 rfl 3 rfl rfl TI24 (.inl rfl) rfl rfl (fun v62 hs => ?_)
          obtain ⟨cs63, hl64, rfl⟩ := hs.aggv (n := 3) 0 rfl rfl rfl
          refine WL.fieldAddr (m := 3) h57_5 FA36_3 rfl ?_
          obtain rfl := open_api_Rule hs 0 rfl
          refine WL.store (vs := [.int .i64 x5.Rule.Kind, .int .i64 x5.Rule.Columns, .int .i64 x5.Rule.Faulty]) (cs' := [.slice a24 x23.length c25, .slice a30 x29.length c31, .slice a36 x35.length c37, .int .i64 x5.Rule.Kind, .int .i64 x5.Rule.Columns, .int .i64 x5.Rule.Faulty, .int .i64 x1.Version, .int .i64 x1.Admin, .int .i64 x1.Number]) hs 0 rfl TI24 rfl rfl rfl rfl (ones_of rfl) (Nat.le_of_ble_eq_true rfl) rfl (fun w hs => ?_)
          refine WL.nil ?_
          refine hK61 _ _ ?_
          refine W.seqK fun K65 hK65 => ?_
          refine W.region ?_
          refine WL.fieldAddr (m := 6) h57_3 FA36_4 rfl ?_
          refine WL.loadF (z := x5.Version) F_api_Summary_Version hs 2 rfl 4 rfl rfl TI3 (.inr rfl) rfl rfl (fun v66 hs => ?_)
          obtain rfl := hs.int 0 rfl
          refine WL.fieldAddr (m := 6) h57_5 FA36_4 rfl ?_
          refine WL.store (vs := [.int .i64 x5.Version]) (cs' := [.slice a24 x23.length c25, .slice a30 x29.length c31, .slice a36 x35.length c37, .int .i64 x5.Rule.Kind, .int .i64 x5.Rule.Columns, .int .i64 x5.Rule.Faulty, .int .i64 x5.Version, .int .i64 x1.Admin, .int .i64 x1.Number]) hs 0 rfl TI3 rfl rfl rfl rfl (ones_of rfl) (Nat.le_of_ble_eq_true rfl) rfl (fun w hs => ?_)
          refine WL.nil ?_
          refine hK65 _ _ ?_
          refine W.seqK fun K67 hK67 => ?_
          refine W.region ?_
          refine WL.fieldAddr (m := 7) h57_3 FA36_5 rfl ?_
          refine WL.loadF (z := x5.Admin) F_api_Summary_Admin hs 2 rfl 5 rfl rfl TI3 (.inr rfl) rfl rfl (fun v68 hs => ?_)
          obtain rfl := hs.int 0 rfl
          refine WL.fieldAddr (m := 7) h57_5 FA36_5 rfl ?_
          refine WL.store (vs := [.int .i64 x5.Admin]) (cs' := [.slice a24 x23.length c25, .slice a30 x29.length c31, .slice a36 x35.length c37, .int .i64 x5.Rule.Kind, .int .i64 x5.Rule.Columns, .int .i64 x5.Rule.Faulty, .int .i64 x5.Version, .int .i64 x5.Admin, .int .i64 x1.Number]) hs 0 rfl TI3 rfl rfl rfl rfl (ones_of rfl) (Nat.le_of_ble_eq_true rfl) rfl (fun w hs => ?_)
          refine WL.nil ?_
          refine hK67 _ _ ?_
          refine W.region ?_
          refine WL.fieldAddr (m := 8) h57_3 FA36_6 rfl ?_
          refine WL.loadF (z := x5.Number) F_api_Summary_Number hs 2 rfl 6 rfl rfl TI3 (.inr rfl) rfl rfl (fun v69 hs => ?_)
          obtain rfl := hs.int 0 rfl
          refine WL.fieldAddr (m := 8) h57_5 FA36_6 rfl ?_
          refine WL.store (vs := [.int .i64 x5.Number]) (cs' := [.slice a24 x23.length c25, .slice a30 x29.length c31, .slice a36 x35.length c37, .int .i64 x5.Rule.Kind, .int .i64 x5.Rule.Columns, .int .i64 x5.Rule.Faulty, .int .i64 x5.Version, .int .i64 x5.Admin, .int .i64 x5.Number]) hs 0 rfl TI3 rfl rfl rfl rfl (ones_of rfl) (Nat.le_of_ble_eq_true rfl) rfl (fun w hs => ?_)
          refine WL.nil ?_
          exact Jk54 x5.Rule.Kind x5.Rule.Columns x5.Rule.Faulty x5.Version x5.Admin x5.Number _ _ h57_4 h57_5 ((hs.mask [true, true]).pick [4, 5, 6]) hf }
          {
          refine W.cond_false (bool_tr h57_88 hc60) ?_
          refine W.skip ?_
          exact Jk54 x1.Rule.Kind x1.Rule.Columns x1.Rule.Faulty x1.Version x1.Admin x1.Number _ _ h57_4 h57_5 ((hs.mask [true, true]).pick [0, 1, 2]) hf }
        refine W.region ?_
        refine WL.fieldAddr (m := 3) h34_3 FA36_3 rfl ?_
        refine WL.loadF (z := x5.Rule) F_api_Summary_Rule hs 4 rfl 6 rfl rfl TI24 (.inl rfl) rfl rfl (fun v70 hs => ?_)
        obtain ⟨cs71, hl72, rfl⟩ := hs.aggv (n := 3) 0 rfl rfl rfl
        refine WL.build (vs := []) (cs := [.int .i64 0, .int .i64 0, .int .i64 0]) trivial (bld PL24 rfl) ?_
        obtain rfl := open_api_Rule hs 0 rfl
        refine WL.eqA rfl rfl EG24 (NQ24 (⟨x5.Rule.Kind, x5.Rule.Columns, x5.Rule.Faulty⟩ : api_Rule) (⟨0, 0, 0⟩ : api_Rule)) ?_
        refine WL.move (v := .bool (!decide ((⟨x5.Rule.Kind, x5.Rule.Columns, x5.Rule.Faulty⟩ : api_Rule) = (⟨0, 0, 0⟩ : api_Rule)))) rfl ?_
        rcases iteE hf with ⟨hc73, hf⟩ | ⟨hc73, hf⟩
        {
        refine WL.fieldAddr (m := 3) h34_2 FA36_3 rfl ?_ (hg := (wanted_of rfl rfl (bool_tr rfl hc73)).trans rfl)
        refine WL.loadN (vs := [.int .i64 x1.Rule.Kind, .int .i64 x1.Rule.Columns, .int .i64 x1.Rule.Faulty]) hs 5 rfl TI24 rfl rfl rfl ?_ (hg := (wanted_of rfl rfl (bool_tr rfl hc73)).trans rfl)
        refine WL.build (vs := []) (cs := [.int .i64 0, .int .i64 0, .int .i64 0]) trivial (bld PL24 rfl) ?_ (hg := (wanted_of rfl rfl (bool_tr rfl hc73)).trans rfl)
        refine WL.eqA rfl rfl EG24 (EQ24 (⟨x1.Rule.Kind, x1.Rule.Columns, x1.Rule.Faulty⟩ : api_Rule) (⟨0, 0, 0⟩ : api_Rule)) ?_ (hg := (wanted_of rfl rfl (bool_tr rfl hc73)).trans rfl)
        refine WL.move (v := .bool (decide ((⟨x1.Rule.Kind, x1.Rule.Columns, x1.Rule.Faulty⟩ : api_Rule) = (⟨0, 0, 0⟩ : api_Rule)))) rfl ?_ (hg := (wanted_of rfl rfl (bool_tr rfl hc73)).trans rfl)
        rcases iteE hf with ⟨hc74, hf⟩ | ⟨hc74, hf⟩
        {
        refine WL.pass ((wanted_of rfl rfl (bool_tr rfl hc74)).trans rfl) rfl ?_
        refine WL.pass ((wanted_of rfl rfl (bool_tr rfl hc74)).trans rfl) rfl ?_
        refine WL.pass ((wanted_of rfl rfl (bool_tr rfl hc74)).trans rfl) rfl ?_
        refine WL.pickT (v := .bool true) (bool_tr rfl hc74) rfl ?_ (hg := (wanted_of rfl rfl (bool_tr rfl hc73)).trans rfl)
        refine WL.pickT (v := .bool true) (bool_tr rfl hc73) rfl ?_
        refine WL.nil ?_
        exact Jk59 true _ _ h34_3 h34_4 h34_5 rfl ((hs.mask [false, false, true, true, true]).pick [4, 5, 6, 7]) hf }
        {
        refine WL.loadN (vs := [.int .i64 0, .int .i64 0, .int .i64 x5.Version, .int .i64 x5.Admin, .int .i64 x5.Number]) hs 0 rfl TI59 rfl rfl rfl ?_ (hg := (wanted_of rfl rfl (bool_tr rfl hc74)).trans rfl)
        refine WL.loadN (vs := [.int .i64 0, .int .i64 0, .int .i64 x1.Version, .int .i64 x1.Admin, .int .i64 x1.Number]) hs 1 rfl TI59 rfl rfl rfl ?_ (hg := (wanted_of rfl rfl (bool_tr rfl hc74)).trans rfl)
        have hs := hs.add (it := vl t_api_WeightEntry (⟨0, 0, x5.Version, x5.Admin, x5.Number⟩ : api_WeightEntry) (.agg [.int .i64 0, .int .i64 0, .int .i64 x5.Version, .int .i64 x5.Admin, .int .i64 x5.Number].toArray)) fun ok hA => V_agg (show t_api_WeightEntry.R ok _ _ _ from ⟨[.int .i64 0], [.int .i64 0, .int .i64 x5.Version, .int .i64 x5.Admin, .int .i64 x5.Number], rfl, rfl, ⟨[.int .i64 0], [.int .i64 x5.Version, .int .i64 x5.Admin, .int .i64 x5.Number], rfl, rfl, ⟨[.int .i64 x5.Version], [.int .i64 x5.Admin, .int .i64 x5.Number], rfl, rfl, ⟨[.int .i64 x5.Admin], [.int .i64 x5.Number], rfl, rfl, rfl⟩⟩⟩⟩) rfl
        have hs := hs.add (it := vl t_api_WeightEntry (⟨0, 0, x1.Version, x1.Admin, x1.Number⟩ : api_WeightEntry) (.agg [.int .i64 0, .int .i64 0, .int .i64 x1.Version, .int .i64 x1.Admin, .int .i64 x1.Number].toArray)) fun ok hA => V_agg (show t_api_WeightEntry.R ok _ _ _ from ⟨[.int .i64 0], [.int .i64 0, .int .i64 x1.Version, .int .i64 x1.Admin, .int .i64 x1.Number], rfl, rfl, ⟨[.int .i64 0], [.int .i64 x1.Version, .int .i64 x1.Admin, .int .i64 x1.Number], rfl, rfl, ⟨[.int .i64 x1.Version], [.int .i64 x1.Admin, .int .i64 x1.Number], rfl, rfl, ⟨[.int .i64 x1.Admin], [.int .i64 x1.Number], rfl, rfl, rfl⟩⟩⟩⟩) rfl
        obtain ⟨x75, hxx75, hf⟩ := bindE hf
        refine WL.call (vs := [.agg ([.int .i64 0, .int .i64 0, .int .i64 x5.Version, .int .i64 x5.Admin, .int .i64 x5.Number] : List Value).toArray, .agg ([.int .i64 0, .int .i64 0, .int .i64 x1.Version, .int .i64 x1.Admin, .int .i64 x1.Number] : List Value).toArray]) hs FN46 ⟨rfl, ⟨rfl, trivial⟩⟩ (fun ok hA => esref10_later.calls (x1 := (⟨0, 0, x5.Version, x5.Admin, x5.Number⟩ : api_WeightEntry)) (x5 := (⟨0, 0, x1.Version, x1.Admin, x1.Number⟩ : api_WeightEntry)) hxx75 (hA.get 1 rfl) (hA.get 0 rfl)) ?_ (hg := (wanted_of rfl rfl (bool_tr rfl hc74)).trans rfl)
        rintro _ w hs
        refine WL.pickF (v := .bool x75) (bool_tr rfl hc74) rfl ?_ (hg := (wanted_of rfl rfl (bool_tr rfl hc73)).trans rfl)
        refine WL.pickT (v := .bool x75) (bool_tr rfl hc73) rfl ?_
        refine WL.nil ?_
        exact Jk59 x75 _ _ h34_3 h34_4 h34_5 rfl ((hs.mask [false, false, true, true, true]).pick [6, 7, 8, 9]) hf } }
        {
        refine WL.pass ((wanted_of rfl rfl (bool_tr rfl hc73)).trans rfl) rfl ?_
        refine WL.pass ((wanted_of rfl rfl (bool_tr rfl hc73)).trans rfl) rfl ?_
        refine WL.pass ((wanted_of rfl rfl (bool_tr rfl hc73)).trans rfl) rfl ?_
        refine WL.pass ((wanted_of rfl rfl (bool_tr rfl hc73)).trans rfl) rfl ?_
        refine WL.pass ((wanted_of rfl rfl (bool_tr rfl hc73)).trans rfl) rfl ?_
        refine WL.pass (wanted_undef rfl rfl rfl) rfl ?_
        refine WL.pass (wanted_undef rfl rfl rfl) rfl ?_
        refine WL.pass (wanted_undef rfl rfl rfl) rfl ?_
        refine WL.pass ((wanted_of rfl rfl (bool_tr rfl hc73)).trans rfl) rfl ?_
        refine WL.pickF (v := .bool false) (bool_tr rfl hc73) rfl ?_
        refine WL.nil ?_
        exact Jk59 false _ _ h34_3 h34_4 h34_5 rfl ((hs.mask [false, false, true, true, true]).pick [4, 5, 6, 7]) hf }
      refine W.seqK fun K76 hK76 => ?_
      refine W.region ?_
      refine WL.assign (v := .int .i64 0) rfl ?_
      refine WL.nil ?_
      refine hK76 _ _ ?_
      refine W.block ?_
      obtain ⟨bs82, hbs82, hfs82⟩ := bindE hf
      refine W.loop hbs82 (fun s ρ w => match s with | (x78, x79) => ∃ (a80 : Option Addr), ∃ (c81 : Nat), ρ 2 = .pointer (some ⟨g10, 0, none⟩) ∧ ρ 3 = .pointer (some ⟨g11, 0, none⟩) ∧ ρ 4 = .pointer (some ⟨g12, 0, none⟩) ∧ ρ 5 = .pointer (some ⟨g14, 0, none⟩) ∧ ρ 8 = .int .i64 x78 ∧ St ok (bz w0) w [vl (tSlice (tInt .i64)) x23 (.slice a24 x23.length c25), vl (tSlice (tInt .i64)) x29 (.slice a30 x29.length c31), vl (tSlice t_api_WeightEntry) x79 (.slice a80 x79.length c81), vl t_api_Summary x5 (.agg cs7.toArray), vl (tSlice (tInt .i64)) x1.Joined (.slice a15 (x1.Joined).length c16), vl (tSlice (tInt .i64)) x1.Removed (.slice a17 (x1.Removed).length c18), vl (tSlice t_api_WeightEntry) x1.Weights (.slice a19 (x1.Weights).length c20)] [blk g14 36 [.slice a24 x23.length c25, .slice a30 x29.length c31, .slice a80 x79.length c81, .int .i64 x1.Rule.Kind, .int .i64 x1.Rule.Columns, .int .i64 x1.Rule.Faulty, .int .i64 x1.Version, .int .i64 x1.Admin, .int .i64 x1.Number], blk g12 36 [.slice none 0 0, .slice none 0 0, .slice none 0 0, .int .i64 0, .int .i64 0, .int .i64 0, .int .i64 0, .int .i64 0, .int .i64 0], blk g11 36 cs7, blk g10 36 [.slice a15 (x1.Joined).length c16, .slice a17 (x1.Removed).length c18, .slice a19 (x1.Weights).length c20, .int .i64 x1.Rule.Kind, .int .i64 x1.Rule.Columns, .int .i64 x1.Rule.Faulty, .int .i64 x1.Version, .int .i64 x1.Admin, .int .i64 x1.Number]]) ⟨a19, c20, h28_2, h28_3, h28_4, h28_5, rfl, (hs.mask [true, true, true, true]).pick [0, 1, 2, 3, 4, 5, 2]⟩ ?_
      intro s ρ w os82 hI hf hbbs82
      obtain ⟨x78, x79⟩ := s
      obtain ⟨a80, c81, h77_2, h77_3, h77_4, h77_5, h77_8, hs⟩ := hI
      unfold esref10_Join.l1 at hf
      refine W.seqK fun K83 hK83 => ?_
      refine W.seqK fun K84 hK84 => ?_
      refine W.region ?_
      refine WL.move (v := .int .i64 x78) h77_8 ?_
      refine WL.fieldAddr (m := 2) h77_3 FA36_2 rfl ?_
      refine WL.loadF (z := x5.Weights) F_api_Summary_Weights hs 2 rfl 3 rfl rfl TI34 (.inr rfl) rfl rfl (fun v85 hs => ?_)
      obtain ⟨a86, c87, rfl⟩ := hs.slice 0 rfl
      refine WL.len (v := .slice a86 (x5.Weights).length c87) rfl (len_slice UN34) ?_
      refine WL.bin (v := .bool (decide (x78 < ((x5.Weights).length : Int)))) rfl rfl (ib_lss _ _ _) ?_
      refine WL.nil ?_
      refine hK84 _ _ ?_
      rcases iteE hf with ⟨hc88, hf⟩ | ⟨hc88, hf⟩
      {
      refine W.cond_true (bool_tr rfl hc88) ?_
      refine W.skip ?_
      refine hK83 _ _ ?_
      refine W.seqK fun K89 hK89 => ?_
      refine W.block ?_
      obtain ⟨x93, hxx93, hf⟩ := bindE hf
      obtain ⟨x98, hxx98, hf⟩ := bindE hf
      refine W.any (by kernel_rfl) 9 1 [true, true, true, true, true, true, true, true, true, false] rfl rfl (poAt [pv (.pointer (some ⟨g14, 2, none⟩)), pv (.slice a80 x79.length c81), pv (.pointer (some ⟨g11, 2, none⟩)), pq (fun y : (Option Addr × Nat) => .slice y.1 (x5.Weights).length y.2) (fun v => [vl (tSlice t_api_WeightEntry) x5.Weights v]) (fun v => []), pv (.int .i64 x78), pq (fun y : Addr => .pointer (some y)) (fun v => [pl t_api_WeightEntry x93 (adOf v)]) (fun v => []), pq (fun y : List Value => .agg y.toArray) (fun v => [vl t_api_WeightEntry x93 v]) (fun v => []), pq (fun y : (Option Addr × Nat × Nat) => .slice y.1 y.2.1 y.2.2) (fun v => []) (fun v => [own t_api_WeightEntry 59 v x98]), pv (.pointer (some ⟨g14, 2, none⟩))]) (Λ := [blk g14 36 [.slice a24 x23.length c25, .slice a30 x29.length c31, .slice a80 x79.length c81, .int .i64 x1.Rule.Kind, .int .i64 x1.Rule.Columns, .int .i64 x1.Rule.Faulty, .int .i64 x1.Version, .int .i64 x1.Admin, .int .i64 x1.Number], blk g12 36 [.slice none 0 0, .slice none 0 0, .slice none 0 0, .int .i64 0, .int .i64 0, .int .i64 0, .int .i64 0, .int .i64 0, .int .i64 0], blk g11 36 cs7, blk g10 36 [.slice a15 (x1.Joined).length c16, .slice a17 (x1.Removed).length c18, .slice a19 (x1.Weights).length c20, .int .i64 x1.Rule.Kind, .int .i64 x1.Rule.Columns, .int .i64 x1.Rule.Faulty, .int .i64 x1.Version, .int .i64 x1.Admin, .int .i64 x1.Number]]) hs (by kernel_rfl) (by kernel_rfl) (by kernel_rfl) ⟨⟨⟨⟨⟨⟨⟨⟨⟨trivial, ?_⟩, ?_⟩, ?_⟩, ?_⟩, ?_⟩, ?_⟩, ?_⟩, ?_⟩, ?_⟩ ?_
      {
      intro ρ w Γx Λx hs hu hp
      refine WL.fieldAddr (m := 2) ((hu 5 rfl).trans h77_5) FA36_2 rfl ?_
      exact WL.nil ⟨rfl, _, rfl, rfl, hs.cutG 0 0⟩ }
      {
      intro ρ w Γx Λx hs hu hp
      have e102 : ρ 51 = .pointer (some ⟨g14, 2, none⟩) := (hp 0 rfl).1
      refine WL.load1 (v := .slice a80 x79.length c81) hs (Λx.length + 0) (getApp rfl) TI34 e102 rfl ?_
      exact WL.nil ⟨rfl, _, rfl, rfl, hs.cutG 0 0⟩ }
      {
      intro ρ w Γx Λx hs hu hp
      refine WL.fieldAddr (m := 2) ((hu 3 rfl).trans h77_3) FA36_2 rfl ?_
      exact WL.nil ⟨rfl, _, rfl, rfl, hs.cutG 0 0⟩ }
      {
      intro ρ w Γx Λx hs hu hp
      have e103 : ρ 53 = .pointer (some ⟨g11, 2, none⟩) := (hp 2 rfl).1
      refine WL.loadF (z := x5.Weights) F_api_Summary_Weights hs (Λx.length + 2) (getApp rfl) (Γx.length + 4) (getApp rfl) rfl TI34 (.inr rfl) e103 rfl (fun v90 hs => ?_)
      obtain ⟨a91, c92, rfl⟩ := hs.slice 0 rfl
      have hs := hs.add (it := vl (tSlice t_api_WeightEntry) x5.Weights (.slice a91 (x5.Weights).length c92)) fun ok hA => hA.get 0 rfl
      exact WL.nil ⟨rfl, _, rfl, ⟨(a91, c92), rfl⟩, hs.cutG 1 1⟩ }
      {
      intro ρ w Γx Λx hs hu hp
      refine WL.move (v := .int .i64 x78) ((hu 8 rfl).trans h77_8) ?_
      exact WL.nil ⟨rfl, _, rfl, rfl, hs.cutG 0 0⟩ }
      {
      intro ρ w Γx Λx hs hu hp
      obtain ⟨⟨⟨a104, c105⟩, e106r⟩, hm107⟩ := hp 3 rfl
      have e106 : ρ 54 = .slice a104 (x5.Weights).length c105 := e106r
      rw [e106r] at hm107
      have hs := hs.memo1 (it := vl (tSlice t_api_WeightEntry) x5.Weights (.slice a104 (x5.Weights).length c105)) (List.mem_append.2 (.inl (hm107 _ (List.mem_of_getElem? (i := 0) rfl))))
      have e108 : ρ 55 = .int .i64 x78 := (hp 4 rfl).1
      refine WL.indexAddr hs 0 rfl UN34 TI59 e106 e108 hxx93 (fun ad94 hs => ?_)
      have hs := hs.add (it := pl t_api_WeightEntry x93 ad94) fun ok hA => hA.get 0 rfl
      exact WL.nil ⟨rfl, _, rfl, ⟨ad94, rfl⟩, hs.cutG 1 2⟩ }
      {
      intro ρ w Γx Λx hs hu hp
      obtain ⟨⟨ad109, e110r⟩, hm111⟩ := hp 5 rfl
      have e110 : ρ 56 = .pointer (some ad109) := e110r
      rw [e110r] at hm111
      have hs := hs.memo1 (it := pl t_api_WeightEntry x93 ad109) (List.mem_append.2 (.inl (hm111 _ (List.mem_of_getElem? (i := 0) rfl))))
      refine WL.loadP hs 0 rfl TI59 (.inl rfl) e110 (fun v95 hs => ?_)
      obtain ⟨cs96, hl97, rfl⟩ := hs.aggv (n := 5) 0 rfl rfl rfl
      have hs := hs.add (it := vl t_api_WeightEntry x93 (.agg cs96.toArray)) fun ok hA => hA.get 0 rfl
      exact WL.nil ⟨rfl, _, rfl, ⟨cs96, rfl⟩, hs.cutG 1 2⟩ }
      {
      intro ρ w Γx Λx hs hu hp
      have e112 : ρ 52 = .slice a80 x79.length c81 := (hp 1 rfl).1
      obtain ⟨⟨cs113, e115r⟩, hm116⟩ := hp 6 rfl
      have e115 : ρ 57 = .agg cs113.toArray := e115r
      rw [e115r] at hm116
      have hs := hs.memo1 (it := vl t_api_WeightEntry x93 (.agg cs113.toArray)) (List.mem_append.2 (.inl (hm116 _ (List.mem_of_getElem? (i := 0) rfl))))
      have hl114 := hs.agglen (n := 5) 0 rfl rfl rfl
      refine WL.call (vs := [.slice a80 x79.length c81, .agg cs113.toArray]) hs FN45 ⟨e112, ⟨e115, trivial⟩⟩ (fun ok hA => esref10_Weigh.calls (x1 := x79) (x4 := x93) hxx98 (hA.get (Γx.length + 3 + 1) (getApp1 rfl)) (hA.get 0 rfl)) ?_
      rintro ⟨a99, n100, c101⟩ w hs
      exact WL.nil ⟨rfl, _, rfl, ⟨(a99, n100, c101), rfl⟩, hs.cutG 0 1⟩ }
      {
      intro ρ w Γx Λx hs hu hp
      refine WL.fieldAddr (m := 2) ((hu 5 rfl).trans h77_5) FA36_2 rfl ?_
      exact WL.nil ⟨rfl, _, rfl, rfl, hs.cutG 0 0⟩ }
      {
      intro ρ w hs hu117 hp
      obtain ⟨⟨⟨⟨⟨⟨⟨⟨⟨_, hp0_⟩, hp1_⟩, hp2_⟩, hp3_⟩, hp4_⟩, hp5_⟩, hp6_⟩, hp7_⟩, hp8_⟩ := hp
      have hs : St ok (bz w0) w [vl t_api_WeightEntry x93 (ρ 57), pl t_api_WeightEntry x93 (adOf (ρ 56)), vl (tSlice t_api_WeightEntry) x5.Weights (ρ 54), vl (tSlice t_api_WeightEntry) x5.Weights (.slice a86 (x5.Weights).length c87), vl (tSlice (tInt .i64)) x23 (.slice a24 x23.length c25), vl (tSlice (tInt .i64)) x29 (.slice a30 x29.length c31), vl (tSlice t_api_WeightEntry) x79 (.slice a80 x79.length c81), vl t_api_Summary x5 (.agg cs7.toArray), vl (tSlice (tInt .i64)) x1.Joined (.slice a15 (x1.Joined).length c16), vl (tSlice (tInt .i64)) x1.Removed (.slice a17 (x1.Removed).length c18), vl (tSlice t_api_WeightEntry) x1.Weights (.slice a19 (x1.Weights).length c20)] [own t_api_WeightEntry 59 ((ρ 58)) x98, blk g14 36 [.slice a24 x23.length c25, .slice a30 x29.length c31, .slice a80 x79.length c81, .int .i64 x1.Rule.Kind, .int .i64 x1.Rule.Columns, .int .i64 x1.Rule.Faulty, .int .i64 x1.Version, .int .i64 x1.Admin, .int .i64 x1.Number], blk g12 36 [.slice none 0 0, .slice none 0 0, .slice none 0 0, .int .i64 0, .int .i64 0, .int .i64 0, .int .i64 0, .int .i64 0, .int .i64 0], blk g11 36 cs7, blk g10 36 [.slice a15 (x1.Joined).length c16, .slice a17 (x1.Removed).length c18, .slice a19 (x1.Weights).length c20, .int .i64 x1.Rule.Kind, .int .i64 x1.Rule.Columns, .int .i64 x1.Rule.Faulty, .int .i64 x1.Version, .int .i64 x1.Admin, .int .i64 x1.Number]] := hs
      have e118 : ρ 59 = .pointer (some ⟨g14, 2, none⟩) := hp8_
      obtain ⟨⟨a119, n121, c120⟩, e122⟩ := hp7_
      have e122 : ρ 58 = .slice a119 n121 c120 := e122
      try rw [e122] at hs
      obtain ⟨cs123, e125⟩ := hp6_
      have e125 : ρ 57 = .agg cs123.toArray := e125
      try rw [e125] at hs
      obtain ⟨ad126, e127⟩ := hp5_
      have e127 : ρ 56 = .pointer (some ad126) := e127
      try rw [e127] at hs
      have e128 : ρ 55 = .int .i64 x78 := hp4_
      obtain ⟨⟨a129, c130⟩, e131⟩ := hp3_
      have e131 : ρ 54 = .slice a129 (x5.Weights).length c130 := e131
      try rw [e131] at hs
      have e132 : ρ 53 = .pointer (some ⟨g11, 2, none⟩) := hp2_
      have e133 : ρ 52 = .slice a80 x79.length c81 := hp1_
      have e134 : ρ 51 = .pointer (some ⟨g14, 2, none⟩) := hp0_
      have hl124 := hs.agglen (n := 5) 0 rfl rfl rfl
      refine WA.step [9] (by kernel_rfl) (by simp) ⟨?_, trivial⟩
      refine WL.store (vs := [.slice a119 n121 c120]) (cs' := [.slice a24 x23.length c25, .slice a30 x29.length c31, .slice a119 n121 c120, .int .i64 x1.Rule.Kind, .int .i64 x1.Rule.Columns, .int .i64 x1.Rule.Faulty, .int .i64 x1.Version, .int .i64 x1.Admin, .int .i64 x1.Number]) hs 1 rfl TI34 e118 e122 rfl rfl (ones_of rfl) (Nat.le_of_ble_eq_true rfl) rfl (fun w hs => ?_)
      refine WL.nil ⟨rfl, _, rfl, ?_⟩
      refine WA.done (by kernel_rfl) ?_
      refine hK89 _ _ ?_
      refine W.region ?_
      refine WL.move (v := .int .i64 x78) ((hu117 8 rfl).trans h77_8) ?_
      obtain ⟨x135, ex135, hf⟩ := letE hf
      refine WL.bin (v := .int .i64 x135) rfl rfl (ib_as ex135 (ib_add _ _ _)) ?_
      refine WL.assign (v := .int .i64 x135) rfl ?_
      refine WL.nil ?_
      obtain rfl := hs.ownLen 0 rfl
      have hs := hs.freezeOwn 0 rfl
      exact ⟨_, (Option.some.inj hf).symm, a119, c120, ((hu117 2 rfl).trans h77_2), ((hu117 3 rfl).trans h77_3), ((hu117 4 rfl).trans h77_4), ((hu117 5 rfl).trans h77_5), rfl, (hs.mask [true, true, true, true]).pick [5, 6, 0, 8, 9, 10, 11]⟩ } }
      {
      refine W.cond_false (bool_tr rfl hc88) ?_
      refine W.exit ?_
      have hr := Option.some.inj hf; subst hr
      have hr := hbbs82 _ rfl; subst hr
      have hf := hfs82
      exact Jk38 x79 a80 c81 _ _ h77_2 h77_3 h77_4 h77_5 ((hs.mask [true, true, true, true]).pick [1, 2, 3, 4, 5, 6, 7]) hf }
    refine W.seqK fun K137 hK137 => ?_
    refine W.region ?_
    refine WL.assign (v := .int .i64 0) rfl ?_
    refine WL.nil ?_
    refine hK137 _ _ ?_
    refine W.block ?_
    obtain ⟨bs143, hbs143, hfs143⟩ := bindE hf
    refine W.loop hbs143 (fun s ρ w => match s with | (x139, x140) => ∃ (a141 : Option Addr), ∃ (c142 : Nat), ρ 2 = .pointer (some ⟨g10, 0, none⟩) ∧ ρ 3 = .pointer (some ⟨g11, 0, none⟩) ∧ ρ 4 = .pointer (some ⟨g12, 0, none⟩) ∧ ρ 5 = .pointer (some ⟨g14, 0, none⟩) ∧ ρ 7 = .int .i64 x139 ∧ St ok (bz w0) w [vl (tSlice (tInt .i64)) x23 (.slice a24 x23.length c25), vl (tSlice (tInt .i64)) x140 (.slice a141 x140.length c142), vl (tSlice t_api_WeightEntry) x1.Weights (.slice a19 (x1.Weights).length c20), vl t_api_Summary x5 (.agg cs7.toArray), vl (tSlice (tInt .i64)) x1.Joined (.slice a15 (x1.Joined).length c16), vl (tSlice (tInt .i64)) x1.Removed (.slice a17 (x1.Removed).length c18)] [blk g14 36 [.slice a24 x23.length c25, .slice a141 x140.length c142, .slice a19 (x1.Weights).length c20, .int .i64 x1.Rule.Kind, .int .i64 x1.Rule.Columns, .int .i64 x1.Rule.Faulty, .int .i64 x1.Version, .int .i64 x1.Admin, .int .i64 x1.Number], blk g12 36 [.slice none 0 0, .slice none 0 0, .slice none 0 0, .int .i64 0, .int .i64 0, .int .i64 0, .int .i64 0, .int .i64 0, .int .i64 0], blk g11 36 cs7, blk g10 36 [.slice a15 (x1.Joined).length c16, .slice a17 (x1.Removed).length c18, .slice a19 (x1.Weights).length c20, .int .i64 x1.Rule.Kind, .int .i64 x1.Rule.Columns, .int .i64 x1.Rule.Faulty, .int .i64 x1.Version, .int .i64 x1.Admin, .int .i64 x1.Number]]) ⟨a17, c18, h22_2, h22_3, h22_4, h22_5, rfl, (hs.mask [true, true, true, true]).pick [0, 1, 2, 3, 4, 1]⟩ ?_
    intro s ρ w os143 hI hf hbbs143
    obtain ⟨x139, x140⟩ := s
    obtain ⟨a141, c142, h138_2, h138_3, h138_4, h138_5, h138_7, hs⟩ := hI
    unfold esref10_Join.l2 at hf
    refine W.seqK fun K144 hK144 => ?_
    refine W.seqK fun K145 hK145 => ?_
    refine W.region ?_
    refine WL.move (v := .int .i64 x139) h138_7 ?_
    refine WL.fieldAddr (m := 1) h138_3 FA36_1 rfl ?_
    refine WL.loadF (z := x5.Removed) F_api_Summary_Removed hs 2 rfl 3 rfl rfl TI33 (.inr rfl) rfl rfl (fun v146 hs => ?_)
    obtain ⟨a147, c148, rfl⟩ := hs.slice 0 rfl
    refine WL.len (v := .slice a147 (x5.Removed).length c148) rfl (len_slice UN33) ?_
    refine WL.bin (v := .bool (decide (x139 < ((x5.Removed).length : Int)))) rfl rfl (ib_lss _ _ _) ?_
    refine WL.nil ?_
    refine hK145 _ _ ?_
    rcases iteE hf with ⟨hc149, hf⟩ | ⟨hc149, hf⟩
    {
    refine W.cond_true (bool_tr rfl hc149) ?_
    refine W.skip ?_
    refine hK144 _ _ ?_
    refine W.seqK fun K150 hK150 => ?_
    refine W.block ?_
    obtain ⟨x154, hxx154, hf⟩ := bindE hf
    obtain ⟨x157, hxx157, hf⟩ := bindE hf
    refine W.any (by kernel_rfl) 9 1 [true, true, true, true, true, true, true, true, true, false] rfl rfl (poAt [pv (.pointer (some ⟨g14, 1, none⟩)), pv (.slice a141 x140.length c142), pv (.pointer (some ⟨g11, 1, none⟩)), pq (fun y : (Option Addr × Nat) => .slice y.1 (x5.Removed).length y.2) (fun v => [vl (tSlice (tInt .i64)) x5.Removed v]) (fun v => []), pv (.int .i64 x139), pq (fun y : Addr => .pointer (some y)) (fun v => [pl (tInt .i64) x154 (adOf v)]) (fun v => []), pv (.int .i64 x154), pq (fun y : (Option Addr × Nat × Nat) => .slice y.1 y.2.1 y.2.2) (fun v => []) (fun v => [own (tInt .i64) 3 v x157]), pv (.pointer (some ⟨g14, 1, none⟩))]) (Λ := [blk g14 36 [.slice a24 x23.length c25, .slice a141 x140.length c142, .slice a19 (x1.Weights).length c20, .int .i64 x1.Rule.Kind, .int .i64 x1.Rule.Columns, .int .i64 x1.Rule.Faulty, .int .i64 x1.Version, .int .i64 x1.Admin, .int .i64 x1.Number], blk g12 36 [.slice none 0 0, .slice none 0 0, .slice none 0 0, .int .i64 0, .int .i64 0, .int .i64 0, .int .i64 0, .int .i64 0, .int .i64 0], blk g11 36 cs7, blk g10 36 [.slice a15 (x1.Joined).length c16, .slice a17 (x1.Removed).length c18, .slice a19 (x1.Weights).length c20, .int .i64 x1.Rule.Kind, .int .i64 x1.Rule.Columns, .int .i64 x1.Rule.Faulty, .int .i64 x1.Version, .int .i64 x1.Admin, .int .i64 x1.Number]]) hs (by kernel_rfl) (by kernel_rfl) (by kernel_rfl) ⟨⟨⟨⟨⟨⟨⟨⟨⟨trivial, ?_⟩, ?_⟩, ?_⟩, ?_⟩, ?_⟩, ?_⟩, ?_⟩, ?_⟩, ?_⟩ ?_
    {
    intro ρ w Γx Λx hs hu hp
    refine WL.fieldAddr (m := 1) ((hu 5 rfl).trans h138_5) FA36_1 rfl ?_
    exact WL.nil ⟨rfl, _, rfl, rfl, hs.cutG 0 0⟩ }
    {
    intro ρ w Γx Λx hs hu hp
    have e161 : ρ 35 = .pointer (some ⟨g14, 1, none⟩) := (hp 0 rfl).1
    refine WL.load1 (v := .slice a141 x140.length c142) hs (Λx.length + 0) (getApp rfl) TI33 e161 rfl ?_
    exact WL.nil ⟨rfl, _, rfl, rfl, hs.cutG 0 0⟩ }
    {
    intro ρ w Γx Λx hs hu hp
    refine WL.fieldAddr (m := 1) ((hu 3 rfl).trans h138_3) FA36_1 rfl ?_
    exact WL.nil ⟨rfl, _, rfl, rfl, hs.cutG 0 0⟩ }
    {
    intro ρ w Γx Λx hs hu hp
    have e162 : ρ 37 = .pointer (some ⟨g11, 1, none⟩) := (hp 2 rfl).1
    refine WL.loadF (z := x5.Removed) F_api_Summary_Removed hs (Λx.length + 2) (getApp rfl) (Γx.length + 4) (getApp rfl) rfl TI33 (.inr rfl) e162 rfl (fun v151 hs => ?_)
    obtain ⟨a152, c153, rfl⟩ := hs.slice 0 rfl
    have hs := hs.add (it := vl (tSlice (tInt .i64)) x5.Removed (.slice a152 (x5.Removed).length c153)) fun ok hA => hA.get 0 rfl
    exact WL.nil ⟨rfl, _, rfl, ⟨(a152, c153), rfl⟩, hs.cutG 1 1⟩ }
    {
    intro ρ w Γx Λx hs hu hp
    refine WL.move (v := .int .i64 x139) ((hu 7 rfl).trans h138_7) ?_
    exact WL.nil ⟨rfl, _, rfl, rfl, hs.cutG 0 0⟩ }
    {
    intro ρ w Γx Λx hs hu hp
    obtain ⟨⟨⟨a163, c164⟩, e165r⟩, hm166⟩ := hp 3 rfl
    have e165 : ρ 38 = .slice a163 (x5.Removed).length c164 := e165r
    rw [e165r] at hm166
    have hs := hs.memo1 (it := vl (tSlice (tInt .i64)) x5.Removed (.slice a163 (x5.Removed).length c164)) (List.mem_append.2 (.inl (hm166 _ (List.mem_of_getElem? (i := 0) rfl))))
    have e167 : ρ 39 = .int .i64 x139 := (hp 4 rfl).1
    refine WL.indexAddr hs 0 rfl UN33 TI3 e165 e167 hxx154 (fun ad155 hs => ?_)
    have hs := hs.add (it := pl (tInt .i64) x154 ad155) fun ok hA => hA.get 0 rfl
    exact WL.nil ⟨rfl, _, rfl, ⟨ad155, rfl⟩, hs.cutG 1 2⟩ }
    {
    intro ρ w Γx Λx hs hu hp
    obtain ⟨⟨ad168, e169r⟩, hm170⟩ := hp 5 rfl
    have e169 : ρ 40 = .pointer (some ad168) := e169r
    rw [e169r] at hm170
    have hs := hs.memo1 (it := pl (tInt .i64) x154 ad168) (List.mem_append.2 (.inl (hm170 _ (List.mem_of_getElem? (i := 0) rfl))))
    refine WL.loadP hs 0 rfl TI3 (.inr rfl) e169 (fun v156 hs => ?_)
    obtain rfl := hs.int 0 rfl
    exact WL.nil ⟨rfl, _, rfl, rfl, hs.cutG 0 2⟩ }
    {
    intro ρ w Γx Λx hs hu hp
    have e171 : ρ 36 = .slice a141 x140.length c142 := (hp 1 rfl).1
    have e172 : ρ 41 = .int .i64 x154 := (hp 6 rfl).1
    refine WL.call (vs := [.slice a141 x140.length c142, .int .i64 x154]) hs FN44 ⟨e171, ⟨e172, trivial⟩⟩ (fun ok hA => esref10_Insert.calls (x1 := x140) (x4 := x154) hxx157 (hA.get (Γx.length + 2) (getApp rfl))) ?_
    rintro ⟨a158, n159, c160⟩ w hs
    exact WL.nil ⟨rfl, _, rfl, ⟨(a158, n159, c160), rfl⟩, hs.cutG 0 0⟩ }
    {
    intro ρ w Γx Λx hs hu hp
    refine WL.fieldAddr (m := 1) ((hu 5 rfl).trans h138_5) FA36_1 rfl ?_
    exact WL.nil ⟨rfl, _, rfl, rfl, hs.cutG 0 0⟩ }
    {
    intro ρ w hs hu173 hp
    obtain ⟨⟨⟨⟨⟨⟨⟨⟨⟨_, hp0_⟩, hp1_⟩, hp2_⟩, hp3_⟩, hp4_⟩, hp5_⟩, hp6_⟩, hp7_⟩, hp8_⟩ := hp
    have hs : St ok (bz w0) w [pl (tInt .i64) x154 (adOf (ρ 40)), vl (tSlice (tInt .i64)) x5.Removed (ρ 38), vl (tSlice (tInt .i64)) x5.Removed (.slice a147 (x5.Removed).length c148), vl (tSlice (tInt .i64)) x23 (.slice a24 x23.length c25), vl (tSlice (tInt .i64)) x140 (.slice a141 x140.length c142), vl (tSlice t_api_WeightEntry) x1.Weights (.slice a19 (x1.Weights).length c20), vl t_api_Summary x5 (.agg cs7.toArray), vl (tSlice (tInt .i64)) x1.Joined (.slice a15 (x1.Joined).length c16), vl (tSlice (tInt .i64)) x1.Removed (.slice a17 (x1.Removed).length c18)] [own (tInt .i64) 3 ((ρ 42)) x157, blk g14 36 [.slice a24 x23.length c25, .slice a141 x140.length c142, .slice a19 (x1.Weights).length c20, .int .i64 x1.Rule.Kind, .int .i64 x1.Rule.Columns, .int .i64 x1.Rule.Faulty, .int .i64 x1.Version, .int .i64 x1.Admin, .int .i64 x1.Number], blk g12 36 [.slice none 0 0, .slice none 0 0, .slice none 0 0, .int .i64 0, .int .i64 0, .int .i64 0, .int .i64 0, .int .i64 0, .int .i64 0], blk g11 36 cs7, blk g10 36 [.slice a15 (x1.Joined).length c16, .slice a17 (x1.Removed).length c18, .slice a19 (x1.Weights).length c20, .int .i64 x1.Rule.Kind, .int .i64 x1.Rule.Columns, .int .i64 x1.Rule.Faulty, .int .i64 x1.Version, .int .i64 x1.Admin, .int .i64 x1.Number]] := hs
    have e174 : ρ 43 = .pointer (some ⟨g14, 1, none⟩) := hp8_
    obtain ⟨⟨a175, n177, c176⟩, e178⟩ := hp7_
    have e178 : ρ 42 = .slice a175 n177 c176 := e178
    try rw [e178] at hs
    have e179 : ρ 41 = .int .i64 x154 := hp6_
    obtain ⟨ad180, e181⟩ := hp5_
    have e181 : ρ 40 = .pointer (some ad180) := e181
    try rw [e181] at hs
    have e182 : ρ 39 = .int .i64 x139 := hp4_
    obtain ⟨⟨a183, c184⟩, e185⟩ := hp3_
    have e185 : ρ 38 = .slice a183 (x5.Removed).length c184 := e185
    try rw [e185] at hs
    have e186 : ρ 37 = .pointer (some ⟨g11, 1, none⟩) := hp2_
    have e187 : ρ 36 = .slice a141 x140.length c142 := hp1_
    have e188 : ρ 35 = .pointer (some ⟨g14, 1, none⟩) := hp0_
    refine WA.step [9] (by kernel_rfl) (by simp) ⟨?_, trivial⟩
    refine WL.store (vs := [.slice a175 n177 c176]) (cs' := [.slice a24 x23.length c25, .slice a175 n177 c176, .slice a19 (x1.Weights).length c20, .int .i64 x1.Rule.Kind, .int .i64 x1.Rule.Columns, .int .i64 x1.Rule.Faulty, .int .i64 x1.Version, .int .i64 x1.Admin, .int .i64 x1.Number]) hs 1 rfl TI33 e174 e178 rfl rfl (ones_of rfl) (Nat.le_of_ble_eq_true rfl) rfl (fun w hs => ?_)
    refine WL.nil ⟨rfl, _, rfl, ?_⟩
    refine WA.done (by kernel_rfl) ?_
    refine hK150 _ _ ?_
    refine W.region ?_
    refine WL.move (v := .int .i64 x139) ((hu173 7 rfl).trans h138_7) ?_
    obtain ⟨x189, ex189, hf⟩ := letE hf
    refine WL.bin (v := .int .i64 x189) rfl rfl (ib_as ex189 (ib_add _ _ _)) ?_
    refine WL.assign (v := .int .i64 x189) rfl ?_
    refine WL.nil ?_
    obtain rfl := hs.ownLen 0 rfl
    have hs := hs.freezeOwn 0 rfl
    exact ⟨_, (Option.some.inj hf).symm, a175, c176, ((hu173 2 rfl).trans h138_2), ((hu173 3 rfl).trans h138_3), ((hu173 4 rfl).trans h138_4), ((hu173 5 rfl).trans h138_5), rfl, (hs.mask [true, true, true, true]).pick [4, 0, 6, 7, 8, 9]⟩ } }
    {
    refine W.cond_false (bool_tr rfl hc149) ?_
    refine W.exit ?_
    have hr := Option.some.inj hf; subst hr
    have hr := hbbs143 _ rfl; subst hr
    have hf := hfs143
    exact Jk32 x140 a141 c142 _ _ h138_2 h138_3 h138_4 h138_5 ((hs.mask [true, true, true, true]).pick [1, 2, 3, 4, 5, 6]) hf }
  refine W.seqK fun K191 hK191 => ?_
  refine W.region ?_
  refine WL.assign (v := .int .i64 0) rfl ?_
  refine WL.nil ?_
  refine hK191 _ _ ?_
  refine W.block ?_
  obtain ⟨bs197, hbs197, hfs197⟩ := bindE hf
  refine W.loop hbs197 (fun s ρ w => match s with | (x193, x194) => ∃ (a195 : Option Addr), ∃ (c196 : Nat), ρ 2 = .pointer (some ⟨g10, 0, none⟩) ∧ ρ 3 = .pointer (some ⟨g11, 0, none⟩) ∧ ρ 4 = .pointer (some ⟨g12, 0, none⟩) ∧ ρ 5 = .pointer (some ⟨g14, 0, none⟩) ∧ ρ 6 = .int .i64 x193 ∧ St ok (bz w0) w [vl (tSlice (tInt .i64)) x194 (.slice a195 x194.length c196), vl (tSlice (tInt .i64)) x1.Removed (.slice a17 (x1.Removed).length c18), vl (tSlice t_api_WeightEntry) x1.Weights (.slice a19 (x1.Weights).length c20), vl t_api_Summary x5 (.agg cs7.toArray), vl (tSlice (tInt .i64)) x1.Joined (.slice a15 (x1.Joined).length c16)] [blk g14 36 [.slice a195 x194.length c196, .slice a17 (x1.Removed).length c18, .slice a19 (x1.Weights).length c20, .int .i64 x1.Rule.Kind, .int .i64 x1.Rule.Columns, .int .i64 x1.Rule.Faulty, .int .i64 x1.Version, .int .i64 x1.Admin, .int .i64 x1.Number], blk g12 36 [.slice none 0 0, .slice none 0 0, .slice none 0 0, .int .i64 0, .int .i64 0, .int .i64 0, .int .i64 0, .int .i64 0, .int .i64 0], blk g11 36 cs7, blk g10 36 [.slice a15 (x1.Joined).length c16, .slice a17 (x1.Removed).length c18, .slice a19 (x1.Weights).length c20, .int .i64 x1.Rule.Kind, .int .i64 x1.Rule.Columns, .int .i64 x1.Rule.Faulty, .int .i64 x1.Version, .int .i64 x1.Admin, .int .i64 x1.Number]]) ⟨a15, c16, rfl, rfl, rfl, rfl, rfl, (hs.mask [true, true, true, true]).pick [2, 1, 0, 4, 2]⟩ ?_
  intro s ρ w os197 hI hf hbbs197
  obtain ⟨x193, x194⟩ := s
  obtain ⟨a195, c196, h192_2, h192_3, h192_4, h192_5, h192_6, hs⟩ := hI
  unfold esref10_Join.l3 at hf
  refine W.seqK fun K198 hK198 => ?_
  refine W.seqK fun K199 hK199 => ?_
  refine W.region ?_
  refine WL.move (v := .int .i64 x193) h192_6 ?_
  refine WL.fieldAddr (m := 0) h192_3 FA36_0 rfl ?_
  refine WL.loadF (z := x5.Joined) F_api_Summary_Joined hs 2 rfl 3 rfl rfl TI33 (.inr rfl) rfl rfl (fun v200 hs => ?_)
  obtain ⟨a201, c202, rfl⟩ := hs.slice 0 rfl
  refine WL.len (v := .slice a201 (x5.Joined).length c202) rfl (len_slice UN33) ?_
  refine WL.bin (v := .bool (decide (x193 < ((x5.Joined).length : Int)))) rfl rfl (ib_lss _ _ _) ?_
  refine WL.nil ?_
  refine hK199 _ _ ?_
  rcases iteE hf with ⟨hc203, hf⟩ | ⟨hc203, hf⟩
  {
  refine W.cond_true (bool_tr rfl hc203) ?_
  refine W.skip ?_
  refine hK198 _ _ ?_
  refine W.seqK fun K204 hK204 => ?_
  refine W.block ?_
  obtain ⟨x208, hxx208, hf⟩ := bindE hf
  obtain ⟨x211, hxx211, hf⟩ := bindE hf
  refine W.any (by kernel_rfl) 9 1 [true, true, true, true, true, true, true, true, true, false] rfl rfl (poAt [pv (.pointer (some ⟨g14, 0, none⟩)), pv (.slice a195 x194.length c196), pv (.pointer (some ⟨g11, 0, none⟩)), pq (fun y : (Option Addr × Nat) => .slice y.1 (x5.Joined).length y.2) (fun v => [vl (tSlice (tInt .i64)) x5.Joined v]) (fun v => []), pv (.int .i64 x193), pq (fun y : Addr => .pointer (some y)) (fun v => [pl (tInt .i64) x208 (adOf v)]) (fun v => []), pv (.int .i64 x208), pq (fun y : (Option Addr × Nat × Nat) => .slice y.1 y.2.1 y.2.2) (fun v => []) (fun v => [own (tInt .i64) 3 v x211]), pv (.pointer (some ⟨g14, 0, none⟩))]) (Λ := [blk g14 36 [.slice a195 x194.length c196, .slice a17 (x1.Removed).length c18, .slice a19 (x1.Weights).length c20, .int .i64 x1.Rule.Kind, .int .i64 x1.Rule.Columns, .int .i64 x1.Rule.Faulty, .int .i64 x1.Version, .int .i64 x1.Admin, .int .i64 x1.Number], blk g12 36 [.slice none 0 0, .slice none 0 0, .slice none 0 0, .int .i64 0, .int .i64 0, .int .i64 0, .int .i64 0, .int .i64 0, .int .i64 0], blk g11 36 cs7, blk g10 36 [.slice a15 (x1.Joined).length c16, .slice a17 (x1.Removed).length c18, .slice a19 (x1.Weights).length c20, .int .i64 x1.Rule.Kind, .int .i64 x1.Rule.Columns, .int .i64 x1.Rule.Faulty, .int .i64 x1.Version, .int .i64 x1.Admin, .int .i64 x1.Number]]) hs (by kernel_rfl) (by kernel_rfl) (by kernel_rfl) ⟨⟨⟨⟨⟨⟨⟨⟨⟨trivial, ?_⟩, ?_⟩, ?_⟩, ?_⟩, ?_⟩, ?_⟩, ?_⟩, ?_⟩, ?_⟩ ?_
  {
  intro ρ w Γx Λx hs hu hp
  refine WL.fieldAddr (m := 0) ((hu 5 rfl).trans h192_5) FA36_0 rfl ?_
  exact WL.nil ⟨rfl, _, rfl, rfl, hs.cutG 0 0⟩ }
  {
  intro ρ w Γx Λx hs hu hp
  have e215 : ρ 19 = .pointer (some ⟨g14, 0, none⟩) := (hp 0 rfl).1
  refine WL.load1 (v := .slice a195 x194.length c196) hs (Λx.length + 0) (getApp rfl) TI33 e215 rfl ?_
  exact WL.nil ⟨rfl, _, rfl, rfl, hs.cutG 0 0⟩ }
  {
  intro ρ w Γx Λx hs hu hp
  refine WL.fieldAddr (m := 0) ((hu 3 rfl).trans h192_3) FA36_0 rfl ?_
  exact WL.nil ⟨rfl, _, rfl, rfl, hs.cutG 0 0⟩ }
  {
  intro ρ w Γx Λx hs hu hp
  have e216 : ρ 21 = .pointer (some ⟨g11, 0, none⟩) := (hp 2 rfl).1
  refine WL.loadF (z := x5.Joined) F_api_Summary_Joined hs (Λx.length + 2) (getApp rfl) (Γx.length + 4) (getApp rfl) rfl TI33 (.inr rfl) e216 rfl (fun v205 hs => ?_)
  obtain ⟨a206, c207, rfl⟩ := hs.slice 0 rfl
  have hs := hs.add (it := vl (tSlice (tInt .i64)) x5.Joined (.slice a206 (x5.Joined).length c207)) fun ok hA => hA.get 0 rfl
  exact WL.nil ⟨rfl, _, rfl, ⟨(a206, c207), rfl⟩, hs.cutG 1 1⟩ }
  {
  intro ρ w Γx Λx hs hu hp
  refine WL.move (v := .int .i64 x193) ((hu 6 rfl).trans h192_6) ?_
  exact WL.nil ⟨rfl, _, rfl, rfl, hs.cutG 0 0⟩ }
  {
  intro ρ w Γx Λx hs hu hp
  obtain ⟨⟨⟨a217, c218⟩, e219r⟩, hm220⟩ := hp 3 rfl
  have e219 : ρ 22 = .slice a217 (x5.Joined).length c218 := e219r
  rw [e219r] at hm220
  have hs := hs.memo1 (it := vl (tSlice (tInt .i64)) x5.Joined (.slice a217 (x5.Joined).length c218)) (List.mem_append.2 (.inl (hm220 _ (List.mem_of_getElem? (i := 0) rfl))))
  have e221 : ρ 23 = .int .i64 x193 := (hp 4 rfl).1
  refine WL.indexAddr hs 0 rfl UN33 TI3 e219 e221 hxx208 (fun ad209 hs => ?_)
  have hs := hs.add (it := pl (tInt .i64) x208 ad209) fun ok hA => hA.get 0 rfl
  exact WL.nil ⟨rfl, _, rfl, ⟨ad209, rfl⟩, hs.cutG 1 2⟩ }
  {
  intro ρ w Γx Λx hs hu hp
  obtain ⟨⟨ad222, e223r⟩, hm224⟩ := hp 5 rfl
  have e223 : ρ 24 = .pointer (some ad222) := e223r
  rw [e223r] at hm224
  have hs := hs.memo1 (it := pl (tInt .i64) x208 ad222) (List.mem_append.2 (.inl (hm224 _ (List.mem_of_getElem? (i := 0) rfl))))
  refine WL.loadP hs 0 rfl TI3 (.inr rfl) e223 (fun v210 hs => ?_)
  obtain rfl := hs.int 0 rfl
  exact WL.nil ⟨rfl, _, rfl, rfl, hs.cutG 0 2⟩ }
  {
  intro ρ w Γx Λx hs hu hp
  have e225 : ρ 20 = .slice a195 x194.length c196 := (hp 1 rfl).1
  have e226 : ρ 25 = .int .i64 x208 := (hp 6 rfl).1
  refine WL.call (vs := [.slice a195 x194.length c196, .int .i64 x208]) hs FN44 ⟨e225, ⟨e226, trivial⟩⟩ (fun ok hA => esref10_Insert.calls (x1 := x194) (x4 := x208) hxx211 (hA.get (Γx.length + 1) (getApp rfl))) ?_
  rintro ⟨a212, n213, c214⟩ w hs
  exact WL.nil ⟨rfl, _, rfl, ⟨(a212, n213, c214), rfl⟩, hs.cutG 0 0⟩ }
  {
  intro ρ w Γx Λx hs hu hp
  refine WL.fieldAddr (m := 0) ((hu 5 rfl).trans h192_5) FA36_0 rfl ?_
  exact WL.nil ⟨rfl, _, rfl, rfl, hs.cutG 0 0⟩ }
  {
  intro ρ w hs hu227 hp
  obtain ⟨⟨⟨⟨⟨⟨⟨⟨⟨_, hp0_⟩, hp1_⟩, hp2_⟩, hp3_⟩, hp4_⟩, hp5_⟩, hp6_⟩, hp7_⟩, hp8_⟩ := hp
  have hs : St ok (bz w0) w [pl (tInt .i64) x208 (adOf (ρ 24)), vl (tSlice (tInt .i64)) x5.Joined (ρ 22), vl (tSlice (tInt .i64)) x5.Joined (.slice a201 (x5.Joined).length c202), vl (tSlice (tInt .i64)) x194 (.slice a195 x194.length c196), vl (tSlice (tInt .i64)) x1.Removed (.slice a17 (x1.Removed).length c18), vl (tSlice t_api_WeightEntry) x1.Weights (.slice a19 (x1.Weights).length c20), vl t_api_Summary x5 (.agg cs7.toArray), vl (tSlice (tInt .i64)) x1.Joined (.slice a15 (x1.Joined).length c16)] [own (tInt .i64) 3 ((ρ 26)) x211, blk g14 36 [.slice a195 x194.length c196, .slice a17 (x1.Removed).length c18, .slice a19 (x1.Weights).length c20, .int .i64 x1.Rule.Kind, .int .i64 x1.Rule.Columns, .int .i64 x1.Rule.Faulty, .int .i64 x1.Version, .int .i64 x1.Admin, .int .i64 x1.Number], blk g12 36 [.slice none 0 0, .slice none 0 0, .slice none 0 0, .int .i64 0, .int .i64 0, .int .i64 0, .int .i64 0, .int .i64 0, .int .i64 0], blk g11 36 cs7, blk g10 36 [.slice a15 (x1.Joined).length c16, .slice a17 (x1.Removed).length c18, .slice a19 (x1.Weights).length c20, .int .i64 x1.Rule.Kind, .int .i64 x1.Rule.Columns, .int .i64 x1.Rule.Faulty, .int .i64 x1.Version, .int .i64 x1.Admin, .int .i64 x1.Number]] := hs
  have e228 : ρ 27 = .pointer (some ⟨g14, 0, none⟩) := hp8_
  obtain ⟨⟨a229, n231, c230⟩, e232⟩ := hp7_
  have e232 : ρ 26 = .slice a229 n231 c230 := e232
  try rw [e232] at hs
  have e233 : ρ 25 = .int .i64 x208 := hp6_
  obtain ⟨ad234, e235⟩ := hp5_
  have e235 : ρ 24 = .pointer (some ad234) := e235
  try rw [e235] at hs
  have e236 : ρ 23 = .int .i64 x193 := hp4_
  obtain ⟨⟨a237, c238⟩, e239⟩ := hp3_
  have e239 : ρ 22 = .slice a237 (x5.Joined).length c238 := e239
  try rw [e239] at hs
  have e240 : ρ 21 = .pointer (some ⟨g11, 0, none⟩) := hp2_
  have e241 : ρ 20 = .slice a195 x194.length c196 := hp1_
  have e242 : ρ 19 = .pointer (some ⟨g14, 0, none⟩) := hp0_
  refine WA.step [9] (by kernel_rfl) (by simp) ⟨?_, trivial⟩
  refine WL.store (vs := [.slice a229 n231 c230]) (cs' := [.slice a229 n231 c230, .slice a17 (x1.Removed).length c18, .slice a19 (x1.Weights).length c20, .int .i64 x1.Rule.Kind, .int .i64 x1.Rule.Columns, .int .i64 x1.Rule.Faulty, .int .i64 x1.Version, .int .i64 x1.Admin, .int .i64 x1.Number]) hs 1 rfl TI33 e228 e232 rfl rfl (ones_of rfl) (Nat.le_of_ble_eq_true rfl) rfl (fun w hs => ?_)
  refine WL.nil ⟨rfl, _, rfl, ?_⟩
  refine WA.done (by kernel_rfl) ?_
  refine hK204 _ _ ?_
  refine W.region ?_
  refine WL.move (v := .int .i64 x193) ((hu227 6 rfl).trans h192_6) ?_
  obtain ⟨x243, ex243, hf⟩ := letE hf
  refine WL.bin (v := .int .i64 x243) rfl rfl (ib_as ex243 (ib_add _ _ _)) ?_
  refine WL.assign (v := .int .i64 x243) rfl ?_
  refine WL.nil ?_
  obtain rfl := hs.ownLen 0 rfl
  have hs := hs.freezeOwn 0 rfl
  exact ⟨_, (Option.some.inj hf).symm, a229, c230, ((hu227 2 rfl).trans h192_2), ((hu227 3 rfl).trans h192_3), ((hu227 4 rfl).trans h192_4), ((hu227 5 rfl).trans h192_5), rfl, (hs.mask [true, true, true, true]).pick [0, 5, 6, 7, 8]⟩ } }
  {
  refine W.cond_false (bool_tr rfl hc203) ?_
  refine W.exit ?_
  have hr := Option.some.inj hf; subst hr
  have hr := hbbs197 _ rfl; subst hr
  have hf := hfs197
  exact Jk26 x194 a195 c196 _ _ h192_2 h192_3 h192_4 h192_5 ((hs.mask [true, true, true, true]).pick [1, 2, 3, 4, 5]) hf }
end Go.Proofs.YthfoljpjhegkmaaDoor
