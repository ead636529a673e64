import Derived.Test.YtodebgfppmcjlaaFh
import Derived.Test.YtodebgfppmcjlaaFp0
import Derived.Test.YtodebgfppmcjlaaFp4
import Derived.Test.YtodebgfppmcjlaaFp5
set_option linter.unusedVariables false
set_option linter.unusedSimpArgs false
namespace Go.Proofs.Ytodebgfppmcjlaa
open Go Go.RowKit Go.Proofs.YtodebgfppmcjlaaL
set_option maxRecDepth 100000
set_option maxHeartbeats 4000000
/-! elasticstore/elasticstorelaw04.small: function 17 -/
theorem eslaw04_small.calls {ok : Nat → Prop} {w0 : World} {x1 : api_View} {x5 : Int} {v2 : Value} {r : Bool} (hf : eslaw04_small x1 x5 = some r) (i0 : (vl t_api_View x1 v2).holds ok w0) :
    Calls Try.prog 17 #[v2, .int .i64 x5] w0 fun e w' => ∃ v, e = .returned v ∧ ∃ y : Unit, v = .bool r ∧ St ok (bz w0) w' [] [] := by
  unfold eslaw04_small at hf
  refine calls_of_W (fn := Try.f17) (N := 15) Try.func17 rfl Try.ntmps17 rfl ?_
  have hs : St ok (bz w0) w0 [vl t_api_View x1 v2] [] := St.init (All.cons i0 All.nil)
  clear i0
  obtain ⟨cs3, hl4, rfl⟩ := hs.aggv (n := 4) 0 rfl rfl rfl
  refine W.seqK fun K6 hK6 => ?_
  refine W.region ?_
  refine WL.box (vs := cs3) hs rfl rfl (fun g7 w hs => ?_)
  refine WL.assign (v := .bool false) rfl ?_
  refine WL.nil ?_
  refine hK6 _ _ ?_
  refine W.seqK fun K8 hK8 => ?_
  have Jk11 : ∀ (x10 : Bool) (ρ : Env) (w : World), ρ 4 = .bool x10 → St ok (bz w0) w [] [] → eslaw04_small.j1 x10 = some r → K8 ρ w := by
    intro x10 ρ w h9_4 hs hf
    refine hK8 _ _ ?_
    unfold eslaw04_small.j1 at hf
    refine W.ret ?_
    have hr := Option.some.inj hf; subst hr
    exact ⟨_, resOk_one rfl h9_4, (), rfl, (hs.mask []).pick []⟩
  refine W.region ?_
  refine WL.fieldAddr (m := 0) rfl FA26_0 rfl ?_
  refine WL.loadF (z := x1.Members) F_api_View_Members hs 0 rfl 0 rfl rfl TI24 (.inr rfl) rfl rfl (fun v12 hs => ?_)
  obtain ⟨a13, c14, rfl⟩ := hs.slice 0 rfl
  refine WL.len (v := .slice a13 (x1.Members).length c14) rfl (len_slice UN24) ?_
  refine WL.move (v := .int .i64 x5) rfl ?_
  refine WL.bin (v := .bool (decide (((x1.Members).length : Int) ≤ x5))) rfl rfl (ib_leq _ _ _) ?_
  refine WL.move (v := .bool (decide (((x1.Members).length : Int) ≤ x5))) rfl ?_
  rcases iteE hf with ⟨hc15, hf⟩ | ⟨hc15, hf⟩
  · refine WL.loadAll hs 0 rfl TI26 rfl hl4 ?_ (hg := (wanted_of rfl rfl (bool_tr rfl hc15)).trans rfl)
    obtain ⟨x16, hxx16, hf⟩ := bindE hf
    refine WL.call (vs := [.agg cs3.toArray]) hs FN15 ⟨rfl, trivial⟩ (fun ok hA => esref06_ValidateView.calls (x1 := x1) hxx16 (hA.get 1 rfl)) ?_ (hg := (wanted_of rfl rfl (bool_tr rfl hc15)).trans rfl)
    rintro _ w hs
    refine WL.bin (v := .bool (x16 == 0)) rfl rfl (ib_eql _ _ _) ?_ (hg := (wanted_of rfl rfl (bool_tr rfl hc15)).trans rfl)
    refine WL.pickT (v := .bool (x16 == 0)) (bool_tr rfl hc15) rfl ?_
    refine WL.assign (v := .bool (x16 == 0)) rfl ?_
    refine WL.nil ?_
    exact Jk11 (x16 == 0) _ _ rfl ((hs.mask []).pick []) hf
  · refine WL.pass ((wanted_of rfl rfl (bool_tr rfl hc15)).trans rfl) rfl ?_
    refine WL.pass ((wanted_of rfl rfl (bool_tr rfl hc15)).trans rfl) rfl ?_
    refine WL.pass ((wanted_of rfl rfl (bool_tr rfl hc15)).trans rfl) rfl ?_
    refine WL.pickF (v := .bool false) (bool_tr rfl hc15) rfl ?_
    refine WL.assign (v := .bool false) rfl ?_
    refine WL.nil ?_
    exact Jk11 false _ _ rfl ((hs.mask []).pick []) hf
/-! elasticstore/elasticstoreref06.In: function 23 -/
theorem esref06_In.calls {ok : Nat → Prop} {w0 : World} {x1 : List Int} {x4 : Int} {a2 : Option Addr} {c3 : Nat} {r : Bool} (hf : esref06_In x1 x4 = some r) (i0 : (vl (tSlice (tInt .i64)) x1 (.slice a2 x1.length c3)).holds ok w0) :
    Calls Try.prog 23 #[.slice a2 x1.length c3, .int .i64 x4] w0 fun e w' => ∃ v, e = .returned v ∧ ∃ y : Unit, v = .bool r ∧ St ok (bz w0) w' [] [] := by
  unfold esref06_In at hf
  refine calls_of_W (fn := Try.f23) (N := 18) Try.func23 rfl Try.ntmps23 rfl ?_
  have hs : St ok (bz w0) w0 [vl (tSlice (tInt .i64)) x1 (.slice a2 x1.length c3)] [] := St.init (All.cons i0 All.nil)
  clear i0
  refine W.seqK fun K5 hK5 => ?_
  refine W.region ?_
  refine WL.assign (v := .bool false) rfl ?_
  refine WL.nil ?_
  refine hK5 _ _ ?_
  refine W.seqK fun K6 hK6 => ?_
  have Jk8 : ∀  (ρ : Env) (w : World), St ok (bz w0) w [] [] → esref06_In.j1 = some r → K6 ρ w := by
    intro  ρ w  hs hf
    refine hK6 _ _ ?_
    unfold esref06_In.j1 at hf
    refine W.seqK fun K9 hK9 => ?_
    refine W.region ?_
    refine WL.assign (v := .bool false) rfl ?_
    refine WL.nil ?_
    refine hK9 _ _ ?_
    refine W.ret ?_
    have hr := Option.some.inj hf; subst hr
    exact ⟨_, resOk_one rfl rfl, (), rfl, (hs.mask []).pick []⟩
  refine W.seqK fun K10 hK10 => ?_
  refine W.region ?_
  refine WL.assign (v := .int .i64 0) rfl ?_
  refine WL.nil ?_
  refine hK10 _ _ ?_
  refine W.block ?_
  obtain ⟨bs13, hbs13, hfs13⟩ := bindE hf
  refine W.loop hbs13 (fun s ρ w => match s with | x12 => ρ 0 = .slice a2 x1.length c3 ∧ ρ 1 = .int .i64 x4 ∧ ρ 5 = .int .i64 x12 ∧ St ok (bz w0) w [vl (tSlice (tInt .i64)) x1 (.slice a2 x1.length c3)] []) ⟨rfl, rfl, rfl, (hs.mask []).pick [0]⟩ ?_
  intro x12 ρ w os13 hI hf hbbs13
  obtain ⟨h11_0, h11_1, h11_5, hs⟩ := hI
  unfold esref06_In.l1 at hf
  refine W.seqK fun K14 hK14 => ?_
  refine W.seqK fun K15 hK15 => ?_
  refine W.region ?_
  refine WL.move (v := .int .i64 x12) h11_5 ?_
  refine WL.move (v := .slice a2 x1.length c3) h11_0 ?_
  refine WL.len (v := .slice a2 x1.length c3) rfl (len_slice UN33) ?_
  refine WL.bin (v := .bool (decide (x12 < (x1.length : Int)))) rfl rfl (ib_lss _ _ _) ?_
  refine WL.nil ?_
  refine hK15 _ _ ?_
  rcases iteE hf with ⟨hc16, hf⟩ | ⟨hc16, hf⟩
  · refine W.cond_true (bool_tr rfl hc16) ?_
    refine W.skip ?_
    refine hK14 _ _ ?_
    refine W.seqK fun K17 hK17 => ?_
    refine W.block ?_
    refine W.seqK fun K18 hK18 => ?_
    refine W.region ?_
    refine WL.move (v := .slice a2 x1.length c3) h11_0 ?_
    refine WL.move (v := .int .i64 x12) h11_5 ?_
    obtain ⟨x19, hxx19, hf⟩ := bindE hf
    refine WL.indexAddr hs 0 rfl UN33 TI3 rfl rfl hxx19 (fun ad20 hs => ?_)
    refine WL.loadP hs 0 rfl TI3 (.inr rfl) rfl (fun v21 hs => ?_)
    obtain rfl := hs.int 0 rfl
    refine WL.move (v := .int .i64 x4) h11_1 ?_
    refine WL.bin (v := .bool (x19 == x4)) rfl rfl (ib_eql _ _ _) ?_
    refine WL.nil ?_
    refine hK18 _ _ ?_
    rcases iteE hf with ⟨hc22, hf⟩ | ⟨hc22, hf⟩
    · refine W.cond_true (bool_tr rfl hc22) ?_
      refine W.seqK fun K23 hK23 => ?_
      refine W.region ?_
      refine WL.assign (v := .bool true) rfl ?_
      refine WL.nil ?_
      refine hK23 _ _ ?_
      refine W.ret ?_
      have hr := Option.some.inj hf; subst hr
      have hr := hbbs13 _ rfl; subst hr
      have hf := hfs13
      have hr := Option.some.inj hf; subst hr
      exact ⟨_, resOk_one rfl rfl, (), rfl, (hs.mask []).pick []⟩
    · refine W.cond_false (bool_tr rfl hc22) ?_
      refine W.skip ?_
      refine hK17 _ _ ?_
      refine W.region ?_
      refine WL.move (v := .int .i64 x12) h11_5 ?_
      obtain ⟨x24, ex24, hf⟩ := letE hf
      refine WL.bin (v := .int .i64 x24) rfl rfl (ib_as ex24 (ib_add _ _ _)) ?_
      refine WL.assign (v := .int .i64 x24) rfl ?_
      refine WL.nil ?_
      exact ⟨_, (Option.some.inj hf).symm, h11_0, h11_1, rfl, (hs.mask []).pick [2]⟩
  · refine W.cond_false (bool_tr rfl hc16) ?_
    refine W.exit ?_
    have hr := Option.some.inj hf; subst hr
    have hr := hbbs13 _ rfl; subst hr
    have hf := hfs13
    exact Jk8  _ _  ((hs.mask []).pick []) hf
/-! elasticstore/elasticstoreref06.grid: function 34 -/
theorem esref06_grid.calls {ok : Nat → Prop} {w0 : World} {x1 : api_View} {x5 : List Int} {v2 : Value} {a6 : Option Addr} {c7 : Nat} {r : Bool} (hf : esref06_grid x1 x5 = some r) (i0 : (vl t_api_View x1 v2).holds ok w0) (i1 : (vl (tSlice (tInt .i64)) x5 (.slice a6 x5.length c7)).holds ok w0) :
    Calls Try.prog 34 #[v2, .slice a6 x5.length c7] w0 fun e w' => ∃ v, e = .returned v ∧ ∃ y : Unit, v = .bool r ∧ St ok (bz w0) w' [] [] := by
  unfold esref06_grid at hf
  refine calls_of_W (fn := Try.f34) (N := 56) Try.func34 rfl Try.ntmps34 rfl ?_
  have hs : St ok (bz w0) w0 [vl t_api_View x1 v2, vl (tSlice (tInt .i64)) x5 (.slice a6 x5.length c7)] [] := St.init (All.cons i0 (All.cons i1 All.nil))
  clear i0 i1
  obtain ⟨cs3, hl4, rfl⟩ := hs.aggv (n := 4) 0 rfl rfl rfl
  refine W.seqK fun K8 hK8 => ?_
  refine W.region ?_
  refine WL.box (vs := cs3) hs rfl rfl (fun g9 w hs => ?_)
  refine WL.assign (v := .bool false) rfl ?_
  refine WL.nil ?_
  refine hK8 _ _ ?_
  refine W.seqK fun K10 hK10 => ?_
  refine W.region ?_
  refine WL.assign (v := .bool false) rfl ?_
  refine WL.nil ?_
  refine hK10 _ _ ?_
  refine W.seqK fun K11 hK11 => ?_
  have Jk14 : ∀ (x13 : Bool) (ρ : Env) (w : World), ρ 5 = .bool x13 → St ok (bz w0) w [] [] → esref06_grid.j1 x13 = some r → K11 ρ w := by
    intro x13 ρ w h12_5 hs hf
    refine hK11 _ _ ?_
    unfold esref06_grid.j1 at hf
    refine W.seqK fun K15 hK15 => ?_
    refine W.region ?_
    refine WL.move (v := .bool x13) h12_5 ?_
    refine WL.assign (v := .bool x13) rfl ?_
    refine WL.nil ?_
    refine hK15 _ _ ?_
    refine W.ret ?_
    have hr := Option.some.inj hf; subst hr
    exact ⟨_, resOk_one rfl rfl, (), rfl, (hs.mask []).pick []⟩
  refine W.seqK fun K16 hK16 => ?_
  refine W.region ?_
  refine WL.assign (v := .int .i64 0) rfl ?_
  refine WL.nil ?_
  refine hK16 _ _ ?_
  refine W.block ?_
  obtain ⟨bs20, hbs20, hfs20⟩ := bindE hf
  refine W.loop hbs20 (fun s ρ w => match s with | (x18, x19) => ρ 1 = .slice a6 x5.length c7 ∧ ρ 2 = .pointer (some ⟨g9, 0, none⟩) ∧ ρ 5 = .bool x18 ∧ ρ 6 = .int .i64 x19 ∧ St ok (bz w0) w [vl (tSlice (tInt .i64)) x5 (.slice a6 x5.length c7), vl t_api_View x1 (.agg cs3.toArray)] [blk g9 26 cs3]) ⟨rfl, rfl, rfl, rfl, (hs.mask [true]).pick [1, 0]⟩ ?_
  intro s ρ w os20 hI hf hbbs20
  obtain ⟨x18, x19⟩ := s
  obtain ⟨h17_1, h17_2, h17_5, h17_6, hs⟩ := hI
  unfold esref06_grid.l2 at hf
  refine W.seqK fun K21 hK21 => ?_
  refine W.seqK fun K22 hK22 => ?_
  refine W.region ?_
  refine WL.move (v := .int .i64 x19) h17_6 ?_
  refine WL.fieldAddr (m := 0) h17_2 FA26_0 rfl ?_
  refine WL.loadF (z := x1.Members) F_api_View_Members hs 0 rfl 1 rfl rfl TI24 (.inr rfl) rfl rfl (fun v23 hs => ?_)
  obtain ⟨a24, c25, rfl⟩ := hs.slice 0 rfl
  refine WL.len (v := .slice a24 (x1.Members).length c25) rfl (len_slice UN24) ?_
  refine WL.bin (v := .bool (decide (x19 < ((x1.Members).length : Int)))) rfl rfl (ib_lss _ _ _) ?_
  refine WL.nil ?_
  refine hK22 _ _ ?_
  rcases iteE hf with ⟨hc26, hf⟩ | ⟨hc26, hf⟩
  · refine W.cond_true (bool_tr rfl hc26) ?_
    refine W.skip ?_
    refine hK21 _ _ ?_
    refine W.seqK fun K27 hK27 => ?_
    have Jk30 : ∀ (x29 : Bool) (ρ : Env) (w : World), ρ 1 = .slice a6 x5.length c7 → ρ 2 = .pointer (some ⟨g9, 0, none⟩) → ρ 5 = .bool x29 → ρ 6 = .int .i64 x19 → St ok (bz w0) w [vl (tSlice (tInt .i64)) x5 (.slice a6 x5.length c7), vl t_api_View x1 (.agg cs3.toArray)] [blk g9 26 cs3] → esref06_grid.j2 x1 x19 x29 = some os20 → K27 ρ w := by
      intro x29 ρ w h28_1 h28_2 h28_5 h28_6 hs hf
      refine hK27 _ _ ?_
      unfold esref06_grid.j2 at hf
      refine W.region ?_
      refine WL.move (v := .int .i64 x19) h28_6 ?_
      refine WL.fieldAddr (m := 1) h28_2 FA26_1 rfl ?_
      refine WL.fieldAddr (m := 2) rfl FA23_1 rfl ?_
      refine WL.loadF (z := x1.Rule.Columns) (F_api_View_Rule.comp F_api_Rule_Columns) hs 0 rfl 1 rfl rfl TI3 (.inr rfl) rfl rfl (fun v31 hs => ?_)
      obtain rfl := hs.int 0 rfl
      obtain ⟨x32, ex32, hf⟩ := letE hf
      refine WL.bin (v := .int .i64 x32) rfl rfl (ib_as ex32 (ib_add _ _ _)) ?_
      refine WL.assign (v := .int .i64 x32) rfl ?_
      refine WL.nil ?_
      exact ⟨_, (Option.some.inj hf).symm, h28_1, h28_2, h28_5, rfl, (hs.mask [true]).pick [1, 2]⟩
    refine W.block ?_
    refine W.seqK fun K33 hK33 => ?_
    refine W.region ?_
    refine WL.assign (v := .int .i64 0) rfl ?_
    refine WL.nil ?_
    refine hK33 _ _ ?_
    refine W.seqK fun K34 hK34 => ?_
    refine W.region ?_
    refine WL.move (v := .int .i64 x19) h17_6 ?_
    refine WL.fieldAddr (m := 1) h17_2 FA26_1 rfl ?_
    refine WL.fieldAddr (m := 2) rfl FA23_1 rfl ?_
    refine WL.loadF (z := x1.Rule.Columns) (F_api_View_Rule.comp F_api_Rule_Columns) hs 0 rfl 2 rfl rfl TI3 (.inr rfl) rfl rfl (fun v35 hs => ?_)
    obtain rfl := hs.int 0 rfl
    obtain ⟨x36, ex36, hf⟩ := letE hf
    refine WL.bin (v := .int .i64 x36) rfl rfl (ib_as ex36 (ib_add _ _ _)) ?_
    refine WL.fieldAddr (m := 0) h17_2 FA26_0 rfl ?_
    refine WL.loadF (z := x1.Members) F_api_View_Members hs 0 rfl 3 rfl rfl TI24 (.inr rfl) rfl rfl (fun v37 hs => ?_)
    obtain ⟨a38, c39, rfl⟩ := hs.slice 0 rfl
    refine WL.len (v := .slice a38 (x1.Members).length c39) rfl (len_slice UN24) ?_
    refine WL.min rfl rfl ?_
    refine WL.assign (v := .int .i64 (minI x36 ((x1.Members).length : Int))) rfl ?_
    refine WL.nil ?_
    refine hK34 _ _ ?_
    refine W.seqK fun K40 hK40 => ?_
    have Jk43 : ∀ (x42 : Int) (ρ : Env) (w : World), ρ 1 = .slice a6 x5.length c7 → ρ 2 = .pointer (some ⟨g9, 0, none⟩) → ρ 5 = .bool x18 → ρ 6 = .int .i64 x19 → ρ 7 = .int .i64 x42 → ρ 8 = .int .i64 (minI x36 ((x1.Members).length : Int)) → St ok (bz w0) w [vl (tSlice (tInt .i64)) x5 (.slice a6 x5.length c7), vl t_api_View x1 (.agg cs3.toArray)] [blk g9 26 cs3] → esref06_grid.j3 x1 x18 x19 x36 x42 = some os20 → K40 ρ w := by
      intro x42 ρ w h41_1 h41_2 h41_5 h41_6 h41_7 h41_8 hs hf
      refine hK40 _ _ ?_
      unfold esref06_grid.j3 at hf
      refine W.seqK fun K44 hK44 => ?_
      refine W.seqK fun K45 hK45 => ?_
      refine W.region ?_
      refine WL.move (v := .int .i64 x42) h41_7 ?_
      refine WL.bin (v := .bool (x42 == 0)) rfl rfl (ib_eql _ _ _) ?_
      refine WL.nil ?_
      refine hK45 _ _ ?_
      rcases iteE hf with ⟨hc46, hf⟩ | ⟨hc46, hf⟩
      · refine W.cond_true (bool_tr rfl hc46) ?_
        refine W.seqK fun K47 hK47 => ?_
        refine W.region ?_
        refine WL.assign (v := .bool false) rfl ?_
        refine WL.nil ?_
        refine hK47 _ _ ?_
        refine W.ret ?_
        have hr := Option.some.inj hf; subst hr
        have hr := hbbs20 _ rfl; subst hr
        have hf := hfs20
        have hr := Option.some.inj hf; subst hr
        exact ⟨_, resOk_one rfl rfl, (), rfl, (hs.mask []).pick []⟩
      · refine W.cond_false (bool_tr rfl hc46) ?_
        refine W.skip ?_
        refine hK44 _ _ ?_
        refine W.region ?_
        refine WL.move (v := .bool x18) h41_5 ?_
        refine WL.move (v := .bool x18) rfl ?_
        rcases iteE hf with ⟨hc48, hf⟩ | ⟨hc48, hf⟩
        · refine WL.pass ((wanted_of rfl rfl (bool_tr rfl hc48)).trans rfl) rfl ?_
          refine WL.pass ((wanted_of rfl rfl (bool_tr rfl hc48)).trans rfl) rfl ?_
          refine WL.pass ((wanted_of rfl rfl (bool_tr rfl hc48)).trans rfl) rfl ?_
          refine WL.pass ((wanted_of rfl rfl (bool_tr rfl hc48)).trans rfl) rfl ?_
          refine WL.pass ((wanted_of rfl rfl (bool_tr rfl hc48)).trans rfl) rfl ?_
          refine WL.pickT (v := .bool true) (bool_tr rfl hc48) rfl ?_
          refine WL.assign (v := .bool true) rfl ?_
          refine WL.nil ?_
          exact Jk30 true _ _ h41_1 h41_2 rfl h41_6 ((hs.mask [true]).pick [0, 1]) hf
        · refine WL.move (v := .int .i64 x42) h41_7 ?_ (hg := (wanted_of rfl rfl (bool_tr rfl hc48)).trans rfl)
          refine WL.move (v := .int .i64 (minI x36 ((x1.Members).length : Int))) h41_8 ?_ (hg := (wanted_of rfl rfl (bool_tr rfl hc48)).trans rfl)
          refine WL.move (v := .int .i64 x19) h41_6 ?_ (hg := (wanted_of rfl rfl (bool_tr rfl hc48)).trans rfl)
          obtain ⟨x49, ex49, hf⟩ := letE hf
          refine WL.bin (v := .int .i64 x49) rfl rfl (ib_as ex49 (ib_sub _ _ _)) ?_ (hg := (wanted_of rfl rfl (bool_tr rfl hc48)).trans rfl)
          refine WL.bin (v := .bool (x42 == x49)) rfl rfl (ib_eql _ _ _) ?_ (hg := (wanted_of rfl rfl (bool_tr rfl hc48)).trans rfl)
          refine WL.pickF (v := .bool (x42 == x49)) (bool_tr rfl hc48) rfl ?_
          refine WL.assign (v := .bool (x42 == x49)) rfl ?_
          refine WL.nil ?_
          exact Jk30 (x42 == x49) _ _ h41_1 h41_2 rfl h41_6 ((hs.mask [true]).pick [0, 1]) hf
    refine W.seqK fun K50 hK50 => ?_
    refine W.region ?_
    refine WL.move (v := .int .i64 x19) h17_6 ?_
    refine WL.assign (v := .int .i64 x19) rfl ?_
    refine WL.nil ?_
    refine hK50 _ _ ?_
    refine W.block ?_
    obtain ⟨bs54, hbs54, hfs54⟩ := bindE hf
    refine W.loop hbs54 (fun s ρ w => match s with | (x52, x53) => ρ 1 = .slice a6 x5.length c7 ∧ ρ 2 = .pointer (some ⟨g9, 0, none⟩) ∧ ρ 5 = .bool x18 ∧ ρ 6 = .int .i64 x19 ∧ ρ 7 = .int .i64 x52 ∧ ρ 8 = .int .i64 (minI x36 ((x1.Members).length : Int)) ∧ ρ 9 = .int .i64 x53 ∧ St ok (bz w0) w [vl (tSlice (tInt .i64)) x5 (.slice a6 x5.length c7), vl t_api_View x1 (.agg cs3.toArray)] [blk g9 26 cs3]) ⟨h17_1, h17_2, h17_5, h17_6, rfl, rfl, rfl, (hs.mask [true]).pick [3, 4]⟩ ?_
    intro s ρ w os54 hI hf hbbs54
    obtain ⟨x52, x53⟩ := s
    obtain ⟨h51_1, h51_2, h51_5, h51_6, h51_7, h51_8, h51_9, hs⟩ := hI
    unfold esref06_grid.l1 at hf
    refine W.seqK fun K55 hK55 => ?_
    refine W.seqK fun K56 hK56 => ?_
    refine W.region ?_
    refine WL.move (v := .int .i64 x53) h51_9 ?_
    refine WL.move (v := .int .i64 (minI x36 ((x1.Members).length : Int))) h51_8 ?_
    refine WL.bin (v := .bool (decide (x53 < (minI x36 ((x1.Members).length : Int))))) rfl rfl (ib_lss _ _ _) ?_
    refine WL.nil ?_
    refine hK56 _ _ ?_
    rcases iteE hf with ⟨hc57, hf⟩ | ⟨hc57, hf⟩
    · refine W.cond_true (bool_tr rfl hc57) ?_
      refine W.skip ?_
      refine hK55 _ _ ?_
      refine W.seqK fun K58 hK58 => ?_
      have Jk61 : ∀ (x60 : Int) (ρ : Env) (w : World), ρ 1 = .slice a6 x5.length c7 → ρ 2 = .pointer (some ⟨g9, 0, none⟩) → ρ 5 = .bool x18 → ρ 6 = .int .i64 x19 → ρ 7 = .int .i64 x60 → ρ 8 = .int .i64 (minI x36 ((x1.Members).length : Int)) → ρ 9 = .int .i64 x53 → St ok (bz w0) w [vl (tSlice (tInt .i64)) x5 (.slice a6 x5.length c7), vl t_api_View x1 (.agg cs3.toArray)] [blk g9 26 cs3] → esref06_grid.j4 x53 x60 = some os54 → K58 ρ w := by
        intro x60 ρ w h59_1 h59_2 h59_5 h59_6 h59_7 h59_8 h59_9 hs hf
        refine hK58 _ _ ?_
        unfold esref06_grid.j4 at hf
        refine W.region ?_
        refine WL.move (v := .int .i64 x53) h59_9 ?_
        obtain ⟨x62, ex62, hf⟩ := letE hf
        refine WL.bin (v := .int .i64 x62) rfl rfl (ib_as ex62 (ib_add _ _ _)) ?_
        refine WL.assign (v := .int .i64 x62) rfl ?_
        refine WL.nil ?_
        exact ⟨_, (Option.some.inj hf).symm, h59_1, h59_2, h59_5, h59_6, h59_7, h59_8, rfl, (hs.mask [true]).pick [0, 1]⟩
      refine W.block ?_
      refine W.seqK fun K63 hK63 => ?_
      refine W.region ?_
      refine WL.move (v := .slice a6 x5.length c7) h51_1 ?_
      refine WL.fieldAddr (m := 0) h51_2 FA26_0 rfl ?_
      refine WL.loadF (z := x1.Members) F_api_View_Members hs 0 rfl 1 rfl rfl TI24 (.inr rfl) rfl rfl (fun v64 hs => ?_)
      obtain ⟨a65, c66, rfl⟩ := hs.slice 0 rfl
      refine WL.move (v := .int .i64 x53) h51_9 ?_
      obtain ⟨x67, hxx67, hf⟩ := bindE hf
      refine WL.indexAddr hs 0 rfl UN24 TI44 rfl rfl hxx67 (fun ad68 hs => ?_)
      refine WL.fieldAddrP (z := x67.Server) F_api_Member_Server hs 0 rfl rfl FA44_0 rfl (fun ad69 hs => ?_)
      refine WL.loadP hs 0 rfl TI3 (.inr rfl) rfl (fun v70 hs => ?_)
      obtain rfl := hs.int 0 rfl
      obtain ⟨x71, hxx71, hf⟩ := bindE hf
      refine WL.call (vs := [.slice a6 x5.length c7, .int .i64 x67.Server]) hs FN23 ⟨rfl, ⟨rfl, trivial⟩⟩ (fun ok hA => esref06_In.calls (x1 := x5) (x4 := x67.Server) hxx71 (hA.get 4 rfl)) ?_
      rintro _ w hs
      refine WL.nil ?_
      refine hK63 _ _ ?_
      rcases iteE hf with ⟨hc72, hf⟩ | ⟨hc72, hf⟩
      · refine W.cond_true (bool_tr rfl hc72) ?_
        refine W.region ?_
        refine WL.move (v := .int .i64 x52) h51_7 ?_
        obtain ⟨x73, ex73, hf⟩ := letE hf
        refine WL.bin (v := .int .i64 x73) rfl rfl (ib_as ex73 (ib_add _ _ _)) ?_
        refine WL.assign (v := .int .i64 x73) rfl ?_
        refine WL.nil ?_
        exact Jk61 x73 _ _ h51_1 h51_2 h51_5 h51_6 rfl h51_8 h51_9 ((hs.mask [true]).pick [4, 5]) hf
      · refine W.cond_false (bool_tr rfl hc72) ?_
        refine W.skip ?_
        exact Jk61 x52 _ _ h51_1 h51_2 h51_5 h51_6 h51_7 h51_8 h51_9 ((hs.mask [true]).pick [4, 5]) hf
    · refine W.cond_false (bool_tr rfl hc57) ?_
      refine W.exit ?_
      have hr := Option.some.inj hf; subst hr
      have hr := hbbs54 _ rfl; subst hr
      have hf := hfs54
      exact Jk43 x52 _ _ h51_1 h51_2 h51_5 h51_6 h51_7 h51_8 ((hs.mask [true]).pick [0, 1]) hf
  · refine W.cond_false (bool_tr rfl hc26) ?_
    refine W.exit ?_
    have hr := Option.some.inj hf; subst hr
    have hr := hbbs20 _ rfl; subst hr
    have hf := hfs20
    exact Jk14 x18 _ _ h17_5 ((hs.mask []).pick []) hf
/-! elasticstore/elasticstoreref06.IsQuorum: function 19 -/
theorem esref06_IsQuorum.calls {ok : Nat → Prop} {w0 : World} {x1 : api_View} {x5 : List Int} {v2 : Value} {a6 : Option Addr} {c7 : Nat} {r : Bool} (hf : esref06_IsQuorum x1 x5 = some r) (i0 : (vl t_api_View x1 v2).holds ok w0) (i1 : (vl (tSlice (tInt .i64)) x5 (.slice a6 x5.length c7)).holds ok w0) :
    Calls Try.prog 19 #[v2, .slice a6 x5.length c7] w0 fun e w' => ∃ v, e = .returned v ∧ ∃ y : Unit, v = .bool r ∧ St ok (bz w0) w' [] [] := by
  unfold esref06_IsQuorum at hf
  refine calls_of_W (fn := Try.f19) (N := 82) Try.func19 rfl Try.ntmps19 rfl ?_
  have hs : St ok (bz w0) w0 [vl t_api_View x1 v2, vl (tSlice (tInt .i64)) x5 (.slice a6 x5.length c7)] [] := St.init (All.cons i0 (All.cons i1 All.nil))
  clear i0 i1
  obtain ⟨cs3, hl4, rfl⟩ := hs.aggv (n := 4) 0 rfl rfl rfl
  refine W.seqK fun K8 hK8 => ?_
  refine W.region ?_
  refine WL.box (vs := cs3) hs rfl rfl (fun g9 w hs => ?_)
  refine WL.assign (v := .bool false) rfl ?_
  refine WL.nil ?_
  refine hK8 _ _ ?_
  refine W.seqK fun K10 hK10 => ?_
  refine W.region ?_
  refine WL.fieldAddr (m := 0) rfl FA26_0 rfl ?_
  refine WL.loadF (z := x1.Members) F_api_View_Members hs 0 rfl 0 rfl rfl TI24 (.inr rfl) rfl rfl (fun v11 hs => ?_)
  obtain ⟨a12, c13, rfl⟩ := hs.slice 0 rfl
  refine WL.len (v := .slice a12 (x1.Members).length c13) rfl (len_slice UN24) ?_
  refine WL.assign (v := .int .i64 ((x1.Members).length : Int)) rfl ?_
  refine WL.assign (v := .int .i64 0) rfl ?_
  refine WL.assign (v := .int .i64 0) rfl ?_
  refine WL.assign (v := .int .i64 0) rfl ?_
  refine WL.nil ?_
  refine hK10 _ _ ?_
  refine W.seqK fun K14 hK14 => ?_
  have Jk19 : ∀ (x16 : Int) (x17 : Int) (x18 : Int) (ρ : Env) (w : World), ρ 1 = .slice a6 x5.length c7 → ρ 2 = .pointer (some ⟨g9, 0, none⟩) → ρ 5 = .int .i64 ((x1.Members).length : Int) → ρ 6 = .int .i64 x16 → ρ 7 = .int .i64 x17 → ρ 8 = .int .i64 x18 → St ok (bz w0) w [vl (tSlice (tInt .i64)) x5 (.slice a6 x5.length c7), vl t_api_View x1 (.agg cs3.toArray)] [blk g9 26 cs3] → esref06_IsQuorum.j1 x1 x5 x16 x17 x18 = some r → K14 ρ w := by
    intro x16 x17 x18 ρ w h15_1 h15_2 h15_5 h15_6 h15_7 h15_8 hs hf
    refine hK14 _ _ ?_
    unfold esref06_IsQuorum.j1 at hf
    refine W.seqK fun K20 hK20 => ?_
    refine W.block ?_
    refine W.seqK fun K21 hK21 => ?_
    refine W.region ?_
    refine WL.move (v := .int .i64 ((x1.Members).length : Int)) h15_5 ?_
    refine WL.bin (v := .bool (((x1.Members).length : Int) == 0)) rfl rfl (ib_eql _ _ _) ?_
    refine WL.assign (v := .bool (((x1.Members).length : Int) == 0)) rfl ?_
    refine WL.nil ?_
    refine hK21 _ _ ?_
    rcases iteE hf with ⟨hc22, hf⟩ | ⟨hc22, hf⟩
    · refine W.cond_true (bool_tr rfl hc22) ?_
      refine W.seqK fun K23 hK23 => ?_
      refine W.region ?_
      refine WL.assign (v := .bool false) rfl ?_
      refine WL.nil ?_
      refine hK23 _ _ ?_
      refine W.ret ?_
      have hr := Option.some.inj hf; subst hr
      exact ⟨_, resOk_one rfl rfl, (), rfl, (hs.mask []).pick []⟩
    · refine W.cond_false (bool_tr rfl hc22) ?_
      refine W.seqK fun K24 hK24 => ?_
      refine W.region ?_
      refine WL.fieldAddr (m := 1) h15_2 FA26_1 rfl ?_
      refine WL.fieldAddr (m := 1) rfl FA23_0 rfl ?_
      refine WL.loadF (z := x1.Rule.Kind) (F_api_View_Rule.comp F_api_Rule_Kind) hs 0 rfl 1 rfl rfl TI3 (.inr rfl) rfl rfl (fun v25 hs => ?_)
      obtain rfl := hs.int 0 rfl
      refine WL.bin (v := .bool (x1.Rule.Kind == 1)) rfl rfl (ib_eql _ _ _) ?_
      refine WL.assign (v := .bool (x1.Rule.Kind == 1)) rfl ?_
      refine WL.nil ?_
      refine hK24 _ _ ?_
      rcases iteE hf with ⟨hc26, hf⟩ | ⟨hc26, hf⟩
      · refine W.cond_true (bool_tr rfl hc26) ?_
        refine W.seqK fun K27 hK27 => ?_
        refine W.region ?_
        refine WL.move (v := .int .i64 x16) h15_6 ?_
        obtain ⟨x28, ex28, hf⟩ := letE hf
        refine WL.bin (v := .int .i64 x28) rfl rfl (ib_as ex28 (ib_mul _ _ _)) ?_
        refine WL.move (v := .int .i64 ((x1.Members).length : Int)) h15_5 ?_
        refine WL.bin (v := .bool (decide (((x1.Members).length : Int) < x28))) rfl rfl (ib_gtr _ _ _) ?_
        refine WL.assign (v := .bool (decide (((x1.Members).length : Int) < x28))) rfl ?_
        refine WL.nil ?_
        refine hK27 _ _ ?_
        refine W.ret ?_
        have hr := Option.some.inj hf; subst hr
        exact ⟨_, resOk_one rfl rfl, (), rfl, (hs.mask []).pick []⟩
      · refine W.cond_false (bool_tr rfl hc26) ?_
        refine W.seqK fun K29 hK29 => ?_
        refine W.region ?_
        refine WL.fieldAddr (m := 1) h15_2 FA26_1 rfl ?_
        refine WL.fieldAddr (m := 1) rfl FA23_0 rfl ?_
        refine WL.loadF (z := x1.Rule.Kind) (F_api_View_Rule.comp F_api_Rule_Kind) hs 0 rfl 2 rfl rfl TI3 (.inr rfl) rfl rfl (fun v30 hs => ?_)
        obtain rfl := hs.int 0 rfl
        refine WL.bin (v := .bool (x1.Rule.Kind == 2)) rfl rfl (ib_eql _ _ _) ?_
        refine WL.assign (v := .bool (x1.Rule.Kind == 2)) rfl ?_
        refine WL.nil ?_
        refine hK29 _ _ ?_
        rcases iteE hf with ⟨hc31, hf⟩ | ⟨hc31, hf⟩
        · refine W.cond_true (bool_tr rfl hc31) ?_
          refine W.seqK fun K32 hK32 => ?_
          refine W.region ?_
          refine WL.move (v := .int .i64 x18) h15_8 ?_
          obtain ⟨x33, ex33, hf⟩ := letE hf
          refine WL.bin (v := .int .i64 x33) rfl rfl (ib_as ex33 (ib_mul _ _ _)) ?_
          refine WL.move (v := .int .i64 x17) h15_7 ?_
          refine WL.bin (v := .bool (decide (x17 < x33))) rfl rfl (ib_gtr _ _ _) ?_
          refine WL.assign (v := .bool (decide (x17 < x33))) rfl ?_
          refine WL.nil ?_
          refine hK32 _ _ ?_
          refine W.ret ?_
          have hr := Option.some.inj hf; subst hr
          exact ⟨_, resOk_one rfl rfl, (), rfl, (hs.mask []).pick []⟩
        · refine W.cond_false (bool_tr rfl hc31) ?_
          refine W.seqK fun K34 hK34 => ?_
          refine W.region ?_
          refine WL.fieldAddr (m := 1) h15_2 FA26_1 rfl ?_
          refine WL.fieldAddr (m := 1) rfl FA23_0 rfl ?_
          refine WL.loadF (z := x1.Rule.Kind) (F_api_View_Rule.comp F_api_Rule_Kind) hs 0 rfl 3 rfl rfl TI3 (.inr rfl) rfl rfl (fun v35 hs => ?_)
          obtain rfl := hs.int 0 rfl
          refine WL.bin (v := .bool (x1.Rule.Kind == 4)) rfl rfl (ib_eql _ _ _) ?_
          refine WL.assign (v := .bool (x1.Rule.Kind == 4)) rfl ?_
          refine WL.nil ?_
          refine hK34 _ _ ?_
          rcases iteE hf with ⟨hc36, hf⟩ | ⟨hc36, hf⟩
          · refine W.cond_true (bool_tr rfl hc36) ?_
            refine W.seqK fun K37 hK37 => ?_
            refine W.region ?_
            refine WL.move (v := .int .i64 x16) h15_6 ?_
            refine WL.move (v := .int .i64 ((x1.Members).length : Int)) h15_5 ?_
            refine WL.fieldAddr (m := 1) h15_2 FA26_1 rfl ?_
            refine WL.fieldAddr (m := 3) rfl FA23_2 rfl ?_
            refine WL.loadF (z := x1.Rule.Faulty) (F_api_View_Rule.comp F_api_Rule_Faulty) hs 0 rfl 4 rfl rfl TI3 (.inr rfl) rfl rfl (fun v38 hs => ?_)
            obtain rfl := hs.int 0 rfl
            obtain ⟨x39, ex39, hf⟩ := letE hf
            refine WL.bin (v := .int .i64 x39) rfl rfl (ib_as ex39 (ib_add _ _ _)) ?_
            obtain ⟨x40, ex40, hf⟩ := letE hf
            refine WL.bin (v := .int .i64 x40) rfl rfl (ib_as ex40 (ib_add _ _ _)) ?_
            obtain ⟨x41, ex41, hf⟩ := letE hf
            refine WL.bin (v := .int .i64 x41) rfl rfl (ib_as ex41 (ib_quo _ _ _ (by decide))) ?_
            refine WL.bin (v := .bool (decide (x41 ≤ x16))) rfl rfl (ib_geq _ _ _) ?_
            refine WL.assign (v := .bool (decide (x41 ≤ x16))) rfl ?_
            refine WL.nil ?_
            refine hK37 _ _ ?_
            refine W.ret ?_
            have hr := Option.some.inj hf; subst hr
            exact ⟨_, resOk_one rfl rfl, (), rfl, (hs.mask []).pick []⟩
          · refine W.cond_false (bool_tr rfl hc36) ?_
            refine W.skip ?_
            refine hK20 _ _ ?_
            refine W.seqK fun K42 hK42 => ?_
            refine W.region ?_
            refine WL.loadAll hs 0 rfl TI26 h15_2 hl4 ?_
            refine WL.move (v := .slice a6 x5.length c7) h15_1 ?_
            obtain ⟨x43, hxx43, hf⟩ := bindE hf
            refine WL.call (vs := [.agg cs3.toArray, .slice a6 x5.length c7]) hs FN34 ⟨rfl, ⟨rfl, trivial⟩⟩ (fun ok hA => esref06_grid.calls (x1 := x1) (x5 := x5) hxx43 (hA.get 4 rfl) (hA.get 3 rfl)) ?_
            rintro _ w hs
            refine WL.assign (v := .bool x43) rfl ?_
            refine WL.nil ?_
            refine hK42 _ _ ?_
            refine W.ret ?_
            have hr := Option.some.inj hf; subst hr
            exact ⟨_, resOk_one rfl rfl, (), rfl, (hs.mask []).pick []⟩
  refine W.seqK fun K44 hK44 => ?_
  refine W.region ?_
  refine WL.assign (v := .int .i64 0) rfl ?_
  refine WL.nil ?_
  refine hK44 _ _ ?_
  refine W.block ?_
  obtain ⟨bs50, hbs50, hfs50⟩ := bindE hf
  refine W.loop hbs50 (fun s ρ w => match s with | (x46, x47, x48, x49) => ρ 1 = .slice a6 x5.length c7 ∧ ρ 2 = .pointer (some ⟨g9, 0, none⟩) ∧ ρ 5 = .int .i64 ((x1.Members).length : Int) ∧ ρ 6 = .int .i64 x46 ∧ ρ 7 = .int .i64 x47 ∧ ρ 8 = .int .i64 x48 ∧ ρ 9 = .int .i64 x49 ∧ St ok (bz w0) w [vl (tSlice (tInt .i64)) x5 (.slice a6 x5.length c7), vl t_api_View x1 (.agg cs3.toArray)] [blk g9 26 cs3]) ⟨rfl, rfl, rfl, rfl, rfl, rfl, rfl, (hs.mask [true]).pick [2, 1]⟩ ?_
  intro s ρ w os50 hI hf hbbs50
  obtain ⟨x46, x47, x48, x49⟩ := s
  obtain ⟨h45_1, h45_2, h45_5, h45_6, h45_7, h45_8, h45_9, hs⟩ := hI
  unfold esref06_IsQuorum.l1 at hf
  refine W.seqK fun K51 hK51 => ?_
  refine W.seqK fun K52 hK52 => ?_
  refine W.region ?_
  refine WL.move (v := .int .i64 x49) h45_9 ?_
  refine WL.move (v := .int .i64 ((x1.Members).length : Int)) h45_5 ?_
  refine WL.bin (v := .bool (decide (x49 < ((x1.Members).length : Int)))) rfl rfl (ib_lss _ _ _) ?_
  refine WL.nil ?_
  refine hK52 _ _ ?_
  rcases iteE hf with ⟨hc53, hf⟩ | ⟨hc53, hf⟩
  · refine W.cond_true (bool_tr rfl hc53) ?_
    refine W.skip ?_
    refine hK51 _ _ ?_
    refine W.seqK fun K54 hK54 => ?_
    have Jk59 : ∀ (x56 : Int) (x57 : Int) (x58 : Int) (ρ : Env) (w : World), ρ 1 = .slice a6 x5.length c7 → ρ 2 = .pointer (some ⟨g9, 0, none⟩) → ρ 5 = .int .i64 ((x1.Members).length : Int) → ρ 6 = .int .i64 x56 → ρ 7 = .int .i64 x57 → ρ 8 = .int .i64 x58 → ρ 9 = .int .i64 x49 → St ok (bz w0) w [vl (tSlice (tInt .i64)) x5 (.slice a6 x5.length c7), vl t_api_View x1 (.agg cs3.toArray)] [blk g9 26 cs3] → esref06_IsQuorum.j2 x49 x56 x57 x58 = some os50 → K54 ρ w := by
      intro x56 x57 x58 ρ w h55_1 h55_2 h55_5 h55_6 h55_7 h55_8 h55_9 hs hf
      refine hK54 _ _ ?_
      unfold esref06_IsQuorum.j2 at hf
      refine W.region ?_
      refine WL.move (v := .int .i64 x49) h55_9 ?_
      obtain ⟨x60, ex60, hf⟩ := letE hf
      refine WL.bin (v := .int .i64 x60) rfl rfl (ib_as ex60 (ib_add _ _ _)) ?_
      refine WL.assign (v := .int .i64 x60) rfl ?_
      refine WL.nil ?_
      exact ⟨_, (Option.some.inj hf).symm, h55_1, h55_2, h55_5, h55_6, h55_7, h55_8, rfl, (hs.mask [true]).pick [0, 1]⟩
    refine W.block ?_
    refine W.seqK fun K61 hK61 => ?_
    refine W.region ?_
    refine WL.move (v := .int .i64 x47) h45_7 ?_
    refine WL.fieldAddr (m := 0) h45_2 FA26_0 rfl ?_
    refine WL.loadF (z := x1.Members) F_api_View_Members hs 0 rfl 1 rfl rfl TI24 (.inr rfl) rfl rfl (fun v62 hs => ?_)
    obtain ⟨a63, c64, rfl⟩ := hs.slice 0 rfl
    refine WL.move (v := .int .i64 x49) h45_9 ?_
    obtain ⟨x65, hxx65, hf⟩ := bindE hf
    refine WL.indexAddr hs 0 rfl UN24 TI44 rfl rfl hxx65 (fun ad66 hs => ?_)
    refine WL.fieldAddrP (z := x65.Weight) F_api_Member_Weight hs 0 rfl rfl FA44_1 rfl (fun ad67 hs => ?_)
    refine WL.loadP hs 0 rfl TI3 (.inr rfl) rfl (fun v68 hs => ?_)
    obtain rfl := hs.int 0 rfl
    obtain ⟨x69, ex69, hf⟩ := letE hf
    refine WL.bin (v := .int .i64 x69) rfl rfl (ib_as ex69 (ib_add _ _ _)) ?_
    refine WL.assign (v := .int .i64 x69) rfl ?_
    refine WL.nil ?_
    refine hK61 _ _ ?_
    refine W.seqK fun K70 hK70 => ?_
    refine W.region ?_
    refine WL.move (v := .slice a6 x5.length c7) h45_1 ?_
    refine WL.fieldAddr (m := 0) h45_2 FA26_0 rfl ?_
    refine WL.loadF (z := x1.Members) F_api_View_Members hs 0 rfl 5 rfl rfl TI24 (.inr rfl) rfl rfl (fun v71 hs => ?_)
    obtain ⟨a72, c73, rfl⟩ := hs.slice 0 rfl
    refine WL.move (v := .int .i64 x49) h45_9 ?_
    obtain ⟨x74, hxx74, hf⟩ := bindE hf
    refine WL.indexAddr hs 0 rfl UN24 TI44 rfl rfl hxx74 (fun ad75 hs => ?_)
    refine WL.fieldAddrP (z := x74.Server) F_api_Member_Server hs 0 rfl rfl FA44_0 rfl (fun ad76 hs => ?_)
    refine WL.loadP hs 0 rfl TI3 (.inr rfl) rfl (fun v77 hs => ?_)
    obtain rfl := hs.int 0 rfl
    obtain ⟨x78, hxx78, hf⟩ := bindE hf
    refine WL.call (vs := [.slice a6 x5.length c7, .int .i64 x74.Server]) hs FN23 ⟨rfl, ⟨rfl, trivial⟩⟩ (fun ok hA => esref06_In.calls (x1 := x5) (x4 := x74.Server) hxx78 (hA.get 8 rfl)) ?_
    rintro _ w hs
    refine WL.nil ?_
    refine hK70 _ _ ?_
    rcases iteE hf with ⟨hc79, hf⟩ | ⟨hc79, hf⟩
    · refine W.cond_true (bool_tr rfl hc79) ?_
      refine W.seqK fun K80 hK80 => ?_
      refine W.region ?_
      refine WL.move (v := .int .i64 x46) h45_6 ?_
      obtain ⟨x81, ex81, hf⟩ := letE hf
      refine WL.bin (v := .int .i64 x81) rfl rfl (ib_as ex81 (ib_add _ _ _)) ?_
      refine WL.assign (v := .int .i64 x81) rfl ?_
      refine WL.nil ?_
      refine hK80 _ _ ?_
      refine W.region ?_
      refine WL.move (v := .int .i64 x48) h45_8 ?_
      refine WL.fieldAddr (m := 0) h45_2 FA26_0 rfl ?_
      refine WL.loadF (z := x1.Members) F_api_View_Members hs 0 rfl 9 rfl rfl TI24 (.inr rfl) rfl rfl (fun v82 hs => ?_)
      obtain ⟨a83, c84, rfl⟩ := hs.slice 0 rfl
      refine WL.move (v := .int .i64 x49) h45_9 ?_
      obtain ⟨x85, hxx85, hf⟩ := bindE hf
      refine WL.indexAddr hs 0 rfl UN24 TI44 rfl rfl hxx85 (fun ad86 hs => ?_)
      refine WL.fieldAddrP (z := x85.Weight) F_api_Member_Weight hs 0 rfl rfl FA44_1 rfl (fun ad87 hs => ?_)
      refine WL.loadP hs 0 rfl TI3 (.inr rfl) rfl (fun v88 hs => ?_)
      obtain rfl := hs.int 0 rfl
      obtain ⟨x89, ex89, hf⟩ := letE hf
      refine WL.bin (v := .int .i64 x89) rfl rfl (ib_as ex89 (ib_add _ _ _)) ?_
      refine WL.assign (v := .int .i64 x89) rfl ?_
      refine WL.nil ?_
      exact Jk59 x81 x69 x89 _ _ h45_1 h45_2 h45_5 rfl rfl rfl h45_9 ((hs.mask [true]).pick [12, 13]) hf
    · refine W.cond_false (bool_tr rfl hc79) ?_
      refine W.skip ?_
      exact Jk59 x46 x69 x48 _ _ h45_1 h45_2 h45_5 h45_6 rfl h45_8 h45_9 ((hs.mask [true]).pick [8, 9]) hf
  · refine W.cond_false (bool_tr rfl hc53) ?_
    refine W.exit ?_
    have hr := Option.some.inj hf; subst hr
    have hr := hbbs50 _ rfl; subst hr
    have hf := hfs50
    exact Jk19 x46 x47 x48 _ _ h45_1 h45_2 h45_5 h45_6 h45_7 h45_8 ((hs.mask [true]).pick [0, 1]) hf
/-! elasticstore/elasticstorelaw04.QuorumIs: function 4 -/
theorem eslaw04_QuorumIs.calls {ok : Nat → Prop} {w0 : World} {x1 : api_View} {x5 : List Int} {v2 : Value} {a6 : Option Addr} {c7 : Nat} {r : Bool} (hf : eslaw04_QuorumIs x1 x5 = some r) (i0 : (vl t_api_View x1 v2).holds ok w0) (i1 : (vl (tSlice (tInt .i64)) x5 (.slice a6 x5.length c7)).holds ok w0) :
    Calls Try.prog 4 #[v2, .slice a6 x5.length c7] w0 fun e w' => ∃ v, e = .returned v ∧ ∃ y : Unit, v = .bool r ∧ St ok (bz w0) w' [] [] := by
  unfold eslaw04_QuorumIs at hf
  refine calls_of_W (fn := Try.f4) (N := 24) Try.func4 rfl Try.ntmps4 rfl ?_
  have hs : St ok (bz w0) w0 [vl t_api_View x1 v2, vl (tSlice (tInt .i64)) x5 (.slice a6 x5.length c7)] [] := St.init (All.cons i0 (All.cons i1 All.nil))
  clear i0 i1
  obtain ⟨cs3, hl4, rfl⟩ := hs.aggv (n := 4) 0 rfl rfl rfl
  refine W.seqK fun K8 hK8 => ?_
  refine W.region ?_
  refine WL.box (vs := cs3) hs rfl rfl (fun g9 w hs => ?_)
  refine WL.assign (v := .bool false) rfl ?_
  refine WL.nil ?_
  refine hK8 _ _ ?_
  refine W.seqK fun K10 hK10 => ?_
  refine W.seqK fun K11 hK11 => ?_
  have Jk14 : ∀ (x13 : Bool) (ρ : Env) (w : World), ρ 1 = .slice a6 x5.length c7 → ρ 2 = .pointer (some ⟨g9, 0, none⟩) → ρ 12 = .bool x13 → St ok (bz w0) w [vl (tSlice (tInt .i64)) x5 (.slice a6 x5.length c7), vl t_api_View x1 (.agg cs3.toArray)] [blk g9 26 cs3] → eslaw04_QuorumIs.j2 x1 x5 x13 = some r → K11 ρ w := by
    intro x13 ρ w h12_1 h12_2 h12_12 hs hf
    refine hK11 _ _ ?_
    unfold eslaw04_QuorumIs.j2 at hf
    rcases iteE hf with ⟨hc15, hf⟩ | ⟨hc15, hf⟩
    · refine W.cond_true (bool_tr h12_12 hc15) ?_
      refine W.seqK fun K16 hK16 => ?_
      refine W.region ?_
      obtain ⟨x17, hxx17, hf⟩ := bindE hf
      refine WL.call (vs := []) hs FN11 trivial (fun ok hA => eslaw04_awake.calls hxx17) ?_
      rintro _ w hs
      refine WL.assign (v := .bool x17) rfl ?_
      refine WL.nil ?_
      refine hK16 _ _ ?_
      refine W.ret ?_
      have hr := Option.some.inj hf; subst hr
      exact ⟨_, resOk_one rfl rfl, (), rfl, (hs.mask []).pick []⟩
    · refine W.cond_false (bool_tr h12_12 hc15) ?_
      refine W.skip ?_
      refine hK10 _ _ ?_
      refine W.seqK fun K18 hK18 => ?_
      have Jk21 : ∀ (x20 : Bool) (ρ : Env) (w : World), ρ 4 = .bool x20 → St ok (bz w0) w [] [] → eslaw04_QuorumIs.j1 x20 = some r → K18 ρ w := by
        intro x20 ρ w h19_4 hs hf
        refine hK18 _ _ ?_
        unfold eslaw04_QuorumIs.j1 at hf
        refine W.ret ?_
        have hr := Option.some.inj hf; subst hr
        exact ⟨_, resOk_one rfl h19_4, (), rfl, (hs.mask []).pick []⟩
      obtain ⟨x22, hxx22, hf⟩ := bindE hf
      obtain ⟨x23, hxx23, hf⟩ := bindE hf
      rcases iteE hf with ⟨hc24, hf⟩ | ⟨hc24, hf⟩
      · obtain ⟨x25, hxx25, hf⟩ := bindE hf
        refine W.any (by kernel_rfl) 10 1 [true, true, true, true, true, true, true, true, true, true, false] rfl rfl (poAt [pv (.agg cs3.toArray), pv (.slice a6 x5.length c7), pv (.bool x22), pv (.agg cs3.toArray), pv (.slice a6 x5.length c7), pv (.bool x23), pv (.bool (x22 == x23)), pv (.bool (x22 == x23)), pv (.bool x25), pv (.bool x25)]) (Λ := [blk g9 26 cs3]) hs (by kernel_rfl) (by kernel_rfl) (by kernel_rfl) ⟨⟨⟨⟨⟨⟨⟨⟨⟨⟨trivial, ?_⟩, ?_⟩, ?_⟩, ?_⟩, ?_⟩, ?_⟩, ?_⟩, ?_⟩, ?_⟩, ?_⟩ ?_
        · intro ρ w Γx Λx hs hu hp
          refine WL.loadAll hs (Λx.length + 0) (getApp rfl) TI26 ((hu 2 rfl).trans h12_2) hl4 ?_
          exact WL.nil ⟨rfl, _, rfl, rfl, hs.cutG 0 0⟩
        · intro ρ w Γx Λx hs hu hp
          refine WL.move (v := .slice a6 x5.length c7) ((hu 1 rfl).trans h12_1) ?_
          exact WL.nil ⟨rfl, _, rfl, rfl, hs.cutG 0 0⟩
        · intro ρ w Γx Λx hs hu hp
          have e26 : ρ 14 = .agg cs3.toArray := (hp 0 rfl).1
          have e27 : ρ 15 = .slice a6 x5.length c7 := (hp 1 rfl).1
          refine WL.call (vs := [.agg cs3.toArray, .slice a6 x5.length c7]) hs FN18 ⟨e26, ⟨e27, trivial⟩⟩ (fun ok hA => quorum_IsQuorum.calls (x1 := x1) (x5 := x5) hxx22 (hA.get (Γx.length + 1) (getApp rfl)) (hA.get (Γx.length + 0) (getApp rfl))) ?_
          rintro _ w hs
          exact WL.nil ⟨rfl, _, rfl, rfl, hs.cutG 0 0⟩
        · intro ρ w Γx Λx hs hu hp
          refine WL.loadAll hs (Λx.length + 0) (getApp rfl) TI26 ((hu 2 rfl).trans h12_2) hl4 ?_
          exact WL.nil ⟨rfl, _, rfl, rfl, hs.cutG 0 0⟩
        · intro ρ w Γx Λx hs hu hp
          refine WL.move (v := .slice a6 x5.length c7) ((hu 1 rfl).trans h12_1) ?_
          exact WL.nil ⟨rfl, _, rfl, rfl, hs.cutG 0 0⟩
        · intro ρ w Γx Λx hs hu hp
          have e28 : ρ 17 = .agg cs3.toArray := (hp 3 rfl).1
          have e29 : ρ 18 = .slice a6 x5.length c7 := (hp 4 rfl).1
          refine WL.call (vs := [.agg cs3.toArray, .slice a6 x5.length c7]) hs FN19 ⟨e28, ⟨e29, trivial⟩⟩ (fun ok hA => esref06_IsQuorum.calls (x1 := x1) (x5 := x5) hxx23 (hA.get (Γx.length + 1) (getApp rfl)) (hA.get (Γx.length + 0) (getApp rfl))) ?_
          rintro _ w hs
          exact WL.nil ⟨rfl, _, rfl, rfl, hs.cutG 0 0⟩
        · intro ρ w Γx Λx hs hu hp
          have e30 : ρ 16 = .bool x22 := (hp 2 rfl).1
          have e31 : ρ 19 = .bool x23 := (hp 5 rfl).1
          refine WL.eqB UN4 e30 e31 ?_
          exact WL.nil ⟨rfl, _, rfl, rfl, hs.cutG 0 0⟩
        · intro ρ w Γx Λx hs hu hp
          have e32 : ρ 20 = .bool (x22 == x23) := (hp 6 rfl).1
          refine WL.move (v := .bool (x22 == x23)) e32 ?_
          exact WL.nil ⟨rfl, _, rfl, rfl, hs.cutG 0 0⟩
        · intro ρ w Γx Λx hs hu hp
          have e33 : ρ 21 = .bool (x22 == x23) := (hp 7 rfl).1
          refine WL.call (vs := []) hs FN11 trivial (fun ok hA => eslaw04_awake.calls hxx25) ?_ (hg := (wanted_of rfl rfl (bool_tr e33 hc24)).trans rfl)
          rintro _ w hs
          exact WL.nil ⟨rfl, _, rfl, rfl, hs.cutG 0 0⟩
        · intro ρ w Γx Λx hs hu hp
          have e34 : ρ 21 = .bool (x22 == x23) := (hp 7 rfl).1
          have e35 : ρ 22 = .bool x25 := (hp 8 rfl).1
          refine WL.pickT (v := .bool x25) (bool_tr e34 hc24) e35 ?_
          exact WL.nil ⟨rfl, _, rfl, rfl, hs.cutG 0 0⟩
        · intro ρ w hs hu36 hp
          obtain ⟨⟨⟨⟨⟨⟨⟨⟨⟨⟨_, hp0_⟩, hp1_⟩, hp2_⟩, hp3_⟩, hp4_⟩, hp5_⟩, hp6_⟩, hp7_⟩, hp8_⟩, hp9_⟩ := hp
          have hs : St ok (bz w0) w [vl (tSlice (tInt .i64)) x5 (.slice a6 x5.length c7), vl t_api_View x1 (.agg cs3.toArray)] [blk g9 26 cs3] := hs
          have e37 : ρ 23 = .bool x25 := hp9_
          have e38 : ρ 22 = .bool x25 := hp8_
          have e39 : ρ 21 = .bool (x22 == x23) := hp7_
          have e40 : ρ 20 = .bool (x22 == x23) := hp6_
          have e41 : ρ 19 = .bool x23 := hp5_
          have e42 : ρ 18 = .slice a6 x5.length c7 := hp4_
          have e43 : ρ 17 = .agg cs3.toArray := hp3_
          have e44 : ρ 16 = .bool x22 := hp2_
          have e45 : ρ 15 = .slice a6 x5.length c7 := hp1_
          have e46 : ρ 14 = .agg cs3.toArray := hp0_
          refine WA.step [10] (by kernel_rfl) (by simp) ⟨?_, trivial⟩
          refine WL.assign (v := .bool x25) e37 ?_
          refine WL.nil ⟨rfl, _, rfl, ?_⟩
          refine WA.done (by kernel_rfl) ?_
          exact Jk21 x25 _ _ rfl ((hs.mask []).pick []) hf
      · refine W.any (by kernel_rfl) 10 1 [true, true, true, true, true, true, true, true, true, true, false] rfl rfl (poAt [pv (.agg cs3.toArray), pv (.slice a6 x5.length c7), pv (.bool x22), pv (.agg cs3.toArray), pv (.slice a6 x5.length c7), pv (.bool x23), pv (.bool (x22 == x23)), pv (.bool (x22 == x23)), pv (undef), pv (.bool false)]) (Λ := [blk g9 26 cs3]) hs (by kernel_rfl) (by kernel_rfl) (by kernel_rfl) ⟨⟨⟨⟨⟨⟨⟨⟨⟨⟨trivial, ?_⟩, ?_⟩, ?_⟩, ?_⟩, ?_⟩, ?_⟩, ?_⟩, ?_⟩, ?_⟩, ?_⟩ ?_
        · intro ρ w Γx Λx hs hu hp
          refine WL.loadAll hs (Λx.length + 0) (getApp rfl) TI26 ((hu 2 rfl).trans h12_2) hl4 ?_
          exact WL.nil ⟨rfl, _, rfl, rfl, hs.cutG 0 0⟩
        · intro ρ w Γx Λx hs hu hp
          refine WL.move (v := .slice a6 x5.length c7) ((hu 1 rfl).trans h12_1) ?_
          exact WL.nil ⟨rfl, _, rfl, rfl, hs.cutG 0 0⟩
        · intro ρ w Γx Λx hs hu hp
          have e47 : ρ 14 = .agg cs3.toArray := (hp 0 rfl).1
          have e48 : ρ 15 = .slice a6 x5.length c7 := (hp 1 rfl).1
          refine WL.call (vs := [.agg cs3.toArray, .slice a6 x5.length c7]) hs FN18 ⟨e47, ⟨e48, trivial⟩⟩ (fun ok hA => quorum_IsQuorum.calls (x1 := x1) (x5 := x5) hxx22 (hA.get (Γx.length + 1) (getApp rfl)) (hA.get (Γx.length + 0) (getApp rfl))) ?_
          rintro _ w hs
          exact WL.nil ⟨rfl, _, rfl, rfl, hs.cutG 0 0⟩
        · intro ρ w Γx Λx hs hu hp
          refine WL.loadAll hs (Λx.length + 0) (getApp rfl) TI26 ((hu 2 rfl).trans h12_2) hl4 ?_
          exact WL.nil ⟨rfl, _, rfl, rfl, hs.cutG 0 0⟩
        · intro ρ w Γx Λx hs hu hp
          refine WL.move (v := .slice a6 x5.length c7) ((hu 1 rfl).trans h12_1) ?_
          exact WL.nil ⟨rfl, _, rfl, rfl, hs.cutG 0 0⟩
        · intro ρ w Γx Λx hs hu hp
          have e49 : ρ 17 = .agg cs3.toArray := (hp 3 rfl).1
          have e50 : ρ 18 = .slice a6 x5.length c7 := (hp 4 rfl).1
          refine WL.call (vs := [.agg cs3.toArray, .slice a6 x5.length c7]) hs FN19 ⟨e49, ⟨e50, trivial⟩⟩ (fun ok hA => esref06_IsQuorum.calls (x1 := x1) (x5 := x5) hxx23 (hA.get (Γx.length + 1) (getApp rfl)) (hA.get (Γx.length + 0) (getApp rfl))) ?_
          rintro _ w hs
          exact WL.nil ⟨rfl, _, rfl, rfl, hs.cutG 0 0⟩
        · intro ρ w Γx Λx hs hu hp
          have e51 : ρ 16 = .bool x22 := (hp 2 rfl).1
          have e52 : ρ 19 = .bool x23 := (hp 5 rfl).1
          refine WL.eqB UN4 e51 e52 ?_
          exact WL.nil ⟨rfl, _, rfl, rfl, hs.cutG 0 0⟩
        · intro ρ w Γx Λx hs hu hp
          have e53 : ρ 20 = .bool (x22 == x23) := (hp 6 rfl).1
          refine WL.move (v := .bool (x22 == x23)) e53 ?_
          exact WL.nil ⟨rfl, _, rfl, rfl, hs.cutG 0 0⟩
        · intro ρ w Γx Λx hs hu hp
          have e54 : ρ 21 = .bool (x22 == x23) := (hp 7 rfl).1
          refine WL.pass ((wanted_of rfl rfl (bool_tr e54 hc24)).trans rfl) rfl ?_
          exact WL.nil ⟨rfl, _, rfl, rfl, hs.cutG 0 0⟩
        · intro ρ w Γx Λx hs hu hp
          have e55 : ρ 21 = .bool (x22 == x23) := (hp 7 rfl).1
          have e56 : ρ 22 = undef := (hp 8 rfl).1
          refine WL.pickF (v := .bool false) (bool_tr e55 hc24) rfl ?_
          exact WL.nil ⟨rfl, _, rfl, rfl, hs.cutG 0 0⟩
        · intro ρ w hs hu57 hp
          obtain ⟨⟨⟨⟨⟨⟨⟨⟨⟨⟨_, hp0_⟩, hp1_⟩, hp2_⟩, hp3_⟩, hp4_⟩, hp5_⟩, hp6_⟩, hp7_⟩, hp8_⟩, hp9_⟩ := hp
          have hs : St ok (bz w0) w [vl (tSlice (tInt .i64)) x5 (.slice a6 x5.length c7), vl t_api_View x1 (.agg cs3.toArray)] [blk g9 26 cs3] := hs
          have e58 : ρ 23 = .bool false := hp9_
          have e59 : ρ 22 = undef := hp8_
          have e60 : ρ 21 = .bool (x22 == x23) := hp7_
          have e61 : ρ 20 = .bool (x22 == x23) := hp6_
          have e62 : ρ 19 = .bool x23 := hp5_
          have e63 : ρ 18 = .slice a6 x5.length c7 := hp4_
          have e64 : ρ 17 = .agg cs3.toArray := hp3_
          have e65 : ρ 16 = .bool x22 := hp2_
          have e66 : ρ 15 = .slice a6 x5.length c7 := hp1_
          have e67 : ρ 14 = .agg cs3.toArray := hp0_
          refine WA.step [10] (by kernel_rfl) (by simp) ⟨?_, trivial⟩
          refine WL.assign (v := .bool false) e58 ?_
          refine WL.nil ⟨rfl, _, rfl, ?_⟩
          refine WA.done (by kernel_rfl) ?_
          exact Jk21 false _ _ rfl ((hs.mask []).pick []) hf
  refine W.region ?_
  refine WL.loadAll hs 0 rfl TI26 rfl hl4 ?_
  obtain ⟨x68, hxx68, hf⟩ := bindE hf
  refine WL.call (vs := [.agg cs3.toArray, .int .i64 12]) hs FN17 ⟨rfl, ⟨rfl, trivial⟩⟩ (fun ok hA => eslaw04_small.calls (x1 := x1) (x5 := 12) hxx68 (hA.get 0 rfl)) ?_
  rintro _ w hs
  refine WL.not rfl ?_
  refine WL.move (v := .bool (!x68)) rfl ?_
  rcases iteE hf with ⟨hc69, hf⟩ | ⟨hc69, hf⟩
  · refine WL.pass ((wanted_of rfl rfl (bool_tr rfl hc69)).trans rfl) rfl ?_
    refine WL.pass ((wanted_of rfl rfl (bool_tr rfl hc69)).trans rfl) rfl ?_
    refine WL.pass ((wanted_of rfl rfl (bool_tr rfl hc69)).trans rfl) rfl ?_
    refine WL.pickT (v := .bool true) (bool_tr rfl hc69) rfl ?_
    refine WL.nil ?_
    exact Jk14 true _ _ rfl rfl rfl ((hs.mask [true]).pick [1, 0]) hf
  · refine WL.move (v := .slice a6 x5.length c7) rfl ?_ (hg := (wanted_of rfl rfl (bool_tr rfl hc69)).trans rfl)
    refine WL.len (v := .slice a6 x5.length c7) rfl (len_slice UN33) ?_ (hg := (wanted_of rfl rfl (bool_tr rfl hc69)).trans rfl)
    refine WL.bin (v := .bool (decide (60 < (x5.length : Int)))) rfl rfl (ib_gtr _ _ _) ?_ (hg := (wanted_of rfl rfl (bool_tr rfl hc69)).trans rfl)
    refine WL.pickF (v := .bool (decide (60 < (x5.length : Int)))) (bool_tr rfl hc69) rfl ?_
    refine WL.nil ?_
    exact Jk14 (decide (60 < (x5.length : Int))) _ _ rfl rfl rfl ((hs.mask [true]).pick [1, 0]) hf
/-! elasticstore/elasticstoreref06.subset: function 38 -/
theorem esref06_subset.calls {ok : Nat → Prop} {w0 : World} {x1 : api_View} {x5 : Int} {v2 : Value} {r : List Int} (hf : esref06_subset x1 x5 = some r) (i0 : (vl t_api_View x1 v2).holds ok w0) :
    Calls Try.prog 38 #[v2, .int .i64 x5] w0 fun e w' => ∃ v, e = .returned v ∧ ∃ y : (Option Addr × Nat × Nat), v = .slice y.1 y.2.1 y.2.2 ∧ St ok (bz w0) w' [] [own (tInt .i64) 3 (.slice y.1 y.2.1 y.2.2) r] := by
  unfold esref06_subset at hf
  refine calls_of_W (fn := Try.f38) (N := 30) Try.func38 rfl Try.ntmps38 rfl ?_
  have hs : St ok (bz w0) w0 [vl t_api_View x1 v2] [] := St.init (All.cons i0 All.nil)
  clear i0
  obtain ⟨cs3, hl4, rfl⟩ := hs.aggv (n := 4) 0 rfl rfl rfl
  refine W.seqK fun K6 hK6 => ?_
  refine W.region ?_
  refine WL.box (vs := cs3) hs rfl rfl (fun g7 w hs => ?_)
  refine WL.assign (v := .slice none 0 0) rfl ?_
  refine WL.nil ?_
  refine hK6 _ _ ?_
  refine W.seqK fun K8 hK8 => ?_
  refine W.region ?_
  refine WL.assign (v := .slice none 0 0) rfl ?_
  refine WL.nil ?_
  refine hK8 _ _ ?_
  refine W.seqK fun K9 hK9 => ?_
  have hs := hs.ownNil (tInt .i64) 3
  have Jk15 : ∀ (x11 : List Int) (a12 : Option Addr) (c13 : Nat) (n14 : Nat) (ρ : Env) (w : World), ρ 5 = .slice a12 n14 c13 → St ok (bz w0) w [] [own (tInt .i64) 3 (.slice a12 n14 c13) x11] → esref06_subset.j1 x11 = some r → K9 ρ w := by
    intro x11 a12 c13 n14 ρ w h10_5 hs hf
    refine hK9 _ _ ?_
    unfold esref06_subset.j1 at hf
    refine W.seqK fun K16 hK16 => ?_
    refine W.region ?_
    refine WL.move (v := .slice a12 n14 c13) h10_5 ?_
    refine WL.assign (v := .slice a12 n14 c13) rfl ?_
    refine WL.nil ?_
    refine hK16 _ _ ?_
    refine W.ret ?_
    have hr := Option.some.inj hf; subst hr
    exact ⟨_, resOk_one rfl rfl, (a12, n14, c13), rfl, (hs.mask [true]).pick []⟩
  refine W.seqK fun K17 hK17 => ?_
  refine W.region ?_
  refine WL.assign (v := .int .i64 0) rfl ?_
  refine WL.nil ?_
  refine hK17 _ _ ?_
  refine W.block ?_
  obtain ⟨bs24, hbs24, hfs24⟩ := bindE hf
  refine W.loop hbs24 (fun s ρ w => match s with | (x19, x23) => ∃ (a20 : Option Addr), ∃ (c21 : Nat), ∃ (n22 : Nat), ρ 1 = .int .i64 x5 ∧ ρ 2 = .pointer (some ⟨g7, 0, none⟩) ∧ ρ 5 = .slice a20 n22 c21 ∧ ρ 6 = .int .i64 x23 ∧ St ok (bz w0) w [vl t_api_View x1 (.agg cs3.toArray)] [own (tInt .i64) 3 (.slice a20 n22 c21) x19, blk g7 26 cs3]) ⟨none, 0, 0, rfl, rfl, rfl, rfl, (hs.mask [true, true]).pick [0]⟩ ?_
  intro s ρ w os24 hI hf hbbs24
  obtain ⟨x19, x23⟩ := s
  obtain ⟨a20, c21, n22, h18_1, h18_2, h18_5, h18_6, hs⟩ := hI
  unfold esref06_subset.l1 at hf
  refine W.seqK fun K25 hK25 => ?_
  refine W.seqK fun K26 hK26 => ?_
  refine W.region ?_
  refine WL.move (v := .int .i64 x23) h18_6 ?_
  refine WL.fieldAddr (m := 0) h18_2 FA26_0 rfl ?_
  refine WL.loadF (z := x1.Members) F_api_View_Members hs 1 rfl 0 rfl rfl TI24 (.inr rfl) rfl rfl (fun v27 hs => ?_)
  obtain ⟨a28, c29, rfl⟩ := hs.slice 0 rfl
  refine WL.len (v := .slice a28 (x1.Members).length c29) rfl (len_slice UN24) ?_
  refine WL.bin (v := .bool (decide (x23 < ((x1.Members).length : Int)))) rfl rfl (ib_lss _ _ _) ?_
  refine WL.nil ?_
  refine hK26 _ _ ?_
  rcases iteE hf with ⟨hc30, hf⟩ | ⟨hc30, hf⟩
  · refine W.cond_true (bool_tr rfl hc30) ?_
    refine W.skip ?_
    refine hK25 _ _ ?_
    refine W.seqK fun K31 hK31 => ?_
    have Jk37 : ∀ (x33 : List Int) (a34 : Option Addr) (c35 : Nat) (n36 : Nat) (ρ : Env) (w : World), ρ 1 = .int .i64 x5 → ρ 2 = .pointer (some ⟨g7, 0, none⟩) → ρ 5 = .slice a34 n36 c35 → ρ 6 = .int .i64 x23 → St ok (bz w0) w [vl t_api_View x1 (.agg cs3.toArray)] [own (tInt .i64) 3 (.slice a34 n36 c35) x33, blk g7 26 cs3] → esref06_subset.j2 x23 x33 = some os24 → K31 ρ w := by
      intro x33 a34 c35 n36 ρ w h32_1 h32_2 h32_5 h32_6 hs hf
      refine hK31 _ _ ?_
      unfold esref06_subset.j2 at hf
      refine W.region ?_
      refine WL.move (v := .int .i64 x23) h32_6 ?_
      obtain ⟨x38, ex38, hf⟩ := letE hf
      refine WL.bin (v := .int .i64 x38) rfl rfl (ib_as ex38 (ib_add _ _ _)) ?_
      refine WL.assign (v := .int .i64 x38) rfl ?_
      refine WL.nil ?_
      exact ⟨_, (Option.some.inj hf).symm, a34, c35, n36, h32_1, h32_2, h32_5, rfl, (hs.mask [true, true]).pick [0]⟩
    refine W.block ?_
    refine W.seqK fun K39 hK39 => ?_
    refine W.region ?_
    refine WL.move (v := .int .i64 x5) h18_1 ?_
    refine WL.move (v := .int .i64 x23) h18_6 ?_
    refine WL.convI UN3 UN56 rfl ?_
    obtain ⟨hn40, hf⟩ := guardE hf
    obtain ⟨x41, ex41, hf⟩ := letE hf
    refine WL.shr_ (e := x41) rfl rfl hn40 ex41 ?_
    refine WL.bin (v := .int .i64 (Int.tmod x41 2)) rfl rfl (ib_rem _ _ _ (by decide)) ?_
    refine WL.bin (v := .bool ((Int.tmod x41 2) == 1)) rfl rfl (ib_eql _ _ _) ?_
    refine WL.nil ?_
    refine hK39 _ _ ?_
    rcases iteE hf with ⟨hc42, hf⟩ | ⟨hc42, hf⟩
    · refine W.cond_true (bool_tr rfl hc42) ?_
      refine W.region ?_
      refine WL.move (v := .slice a20 n22 c21) h18_5 ?_
      refine WL.fieldAddr (m := 0) h18_2 FA26_0 rfl ?_
      refine WL.loadF (z := x1.Members) F_api_View_Members hs 1 rfl 1 rfl rfl TI24 (.inr rfl) rfl rfl (fun v43 hs => ?_)
      obtain ⟨a44, c45, rfl⟩ := hs.slice 0 rfl
      refine WL.move (v := .int .i64 x23) h18_6 ?_
      obtain ⟨x46, hxx46, hf⟩ := bindE hf
      refine WL.indexAddr hs 0 rfl UN24 TI44 rfl rfl hxx46 (fun ad47 hs => ?_)
      refine WL.fieldAddrP (z := x46.Server) F_api_Member_Server hs 0 rfl rfl FA44_0 rfl (fun ad48 hs => ?_)
      refine WL.loadP hs 0 rfl TI3 (.inr rfl) rfl (fun v49 hs => ?_)
      obtain rfl := hs.int 0 rfl
      refine WL.buildSlice (n := 1) (vs := [(0, .int .i64 x46.Server)]) (cs := [.int .i64 x46.Server]) hs ⟨⟨rfl, rfl⟩, trivial⟩ (bls PS33 (by decide) rfl) (fun g50 w hs => ?_)
      obtain ⟨x51, hxx51, hf⟩ := bindE hf
      obtain ⟨hbx51, hex51⟩ := appE hxx51
      refine WL.append (ys := [x46.Server]) (zs := x51) hs 1 rfl 0 rfl UN33 EI3 rfl rfl (fun ok hA => (Cells.one (T := tInt .i64) rfl)) hbx51 (by omega) hex51 (fun v52 w hs => ?_)
      obtain ⟨a53, n55, c54, rfl⟩ := hs.ownv3 1 rfl
      refine WL.assign (v := .slice a53 n55 c54) rfl ?_
      refine WL.nil ?_
      exact Jk37 x51 a53 c54 n55 _ _ h18_1 h18_2 rfl h18_6 ((hs.mask [false, true, true]).pick [5]) hf
    · refine W.cond_false (bool_tr rfl hc42) ?_
      refine W.skip ?_
      exact Jk37 x19 a20 c21 n22 _ _ h18_1 h18_2 h18_5 h18_6 ((hs.mask [true, true]).pick [1]) hf
  · refine W.cond_false (bool_tr rfl hc30) ?_
    refine W.exit ?_
    have hr := Option.some.inj hf; subst hr
    have hr := hbbs24 _ rfl; subst hr
    have hf := hfs24
    exact Jk15 x19 a20 c21 n22 _ _ h18_5 ((hs.mask [true]).pick []) hf
theorem esref06_subset.callc {ok : Nat → Prop} {w0 : World} {x1 : api_View} {x5 : Int} {v2 : Value} {r : List Int} (hf : esref06_subset x1 x5 = some r) (i0 : (vl t_api_View x1 v2).holds ok w0) :
    Calls Try.prog 38 #[v2, .int .i64 x5] w0 fun e w' => ∃ v, e = .returned v ∧ ∃ y : (Option Addr × Nat), v = .slice y.1 r.length y.2 ∧ St ok (bz w0) w' [vl (tSlice (tInt .i64)) r (.slice y.1 r.length y.2)] [] := by
  refine (esref06_subset.calls (ok := ok) (w0 := w0) (x1 := x1) (x5 := x5) hf i0).mono ?_
  rintro e w' ⟨v, rfl, ⟨a57, n58, c59⟩, rfl, hs⟩
  obtain rfl := hs.ownLen 0 rfl
  have hs := hs.freezeOwn 0 rfl
  exact ⟨_, rfl, (a57, c59), rfl, hs.pick [0]⟩
end Go.Proofs.Ytodebgfppmcjlaa
