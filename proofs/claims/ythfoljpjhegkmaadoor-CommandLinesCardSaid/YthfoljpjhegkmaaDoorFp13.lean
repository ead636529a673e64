import Derived.Test.YthfoljpjhegkmaaDoorFh
set_option linter.unusedVariables false
set_option linter.unusedSimpArgs false
namespace Go.Proofs.YthfoljpjhegkmaaDoor
open Go Go.RowKit Go.Proofs.YthfoljpjhegkmaaDoorL
set_option maxRecDepth 100000
set_option maxHeartbeats 4000000
/-! elasticstore/elasticstoreref06.In: function 59 -/
theorem esref06_In.calls {ok : Nat → Prop} {w0 : World} {x1 : List Int} {x4 : Int} {a2 : Option Addr} {c3 : Nat} {r : Bool} (hf : esref06_In x1 x4 = some r) (i0 : (vl (tSlice (tInt .i64)) x1 (.slice a2 x1.length c3)).holds ok w0) :
    Calls Tryd.prog 59 #[.slice a2 x1.length c3, .int .i64 x4] w0 fun e w' => ∃ v, e = .returned v ∧ ∃ y : Unit, v = .bool r ∧ St ok (bz w0) w' [] [] := by
  unfold esref06_In at hf
  refine calls_of_W (fn := Tryd.f59) (N := 18) Tryd.func59 rfl Tryd.ntmps59 rfl ?_
  have hs : St ok (bz w0) w0 [vl (tSlice (tInt .i64)) x1 (.slice a2 x1.length c3)] [] := St.init (All.cons i0 All.nil)
  clear i0
  refine W.seqK fun K5 hK5 => ?_
  refine W.region ?_
  refine WL.assign (v := .bool false) rfl ?_
  refine WL.nil ?_
  refine hK5 _ _ ?_
  refine W.seqK fun K6 hK6 => ?_
  have Jk8 : ∀  (ρ : Env) (w : World), St ok (bz w0) w [] [] → esref06_In.j1 = some r → K6 ρ w := by
    intro  ρ w  hs hf
    refine hK6 _ _ ?_
    unfold esref06_In.j1 at hf
    refine W.seqK fun K9 hK9 => ?_
    refine W.region ?_
    refine WL.assign (v := .bool false) rfl ?_
    refine WL.nil ?_
    refine hK9 _ _ ?_
    refine W.ret ?_
    have hr := Option.some.inj hf; subst hr
    exact ⟨_, resOk_one rfl rfl, (), rfl, (hs.mask []).pick []⟩
  refine W.seqK fun K10 hK10 => ?_
  refine W.region ?_
  refine WL.assign (v := .int .i64 0) rfl ?_
  refine WL.nil ?_
  refine hK10 _ _ ?_
  refine W.block ?_
  obtain ⟨bs13, hbs13, hfs13⟩ := bindE hf
  refine W.loop hbs13 (fun s ρ w => match s with | x12 => ρ 0 = .slice a2 x1.length c3 ∧ ρ 1 = .int .i64 x4 ∧ ρ 5 = .int .i64 x12 ∧ St ok (bz w0) w [vl (tSlice (tInt .i64)) x1 (.slice a2 x1.length c3)] []) ⟨rfl, rfl, rfl, (hs.mask []).pick [0]⟩ ?_
  intro x12 ρ w os13 hI hf hbbs13
  obtain ⟨h11_0, h11_1, h11_5, hs⟩ := hI
  unfold esref06_In.l1 at hf
  refine W.seqK fun K14 hK14 => ?_
  refine W.seqK fun K15 hK15 => ?_
  refine W.region ?_
  refine WL.move (v := .int .i64 x12) h11_5 ?_
  refine WL.move (v := .slice a2 x1.length c3) h11_0 ?_
  refine WL.len (v := .slice a2 x1.length c3) rfl (len_slice UN33) ?_
  refine WL.bin (v := .bool (decide (x12 < (x1.length : Int)))) rfl rfl (ib_lss _ _ _) ?_
  refine WL.nil ?_
  refine hK15 _ _ ?_
  rcases iteE hf with ⟨hc16, hf⟩ | ⟨hc16, hf⟩
  · refine W.cond_true (bool_tr rfl hc16) ?_
    refine W.skip ?_
    refine hK14 _ _ ?_
    refine W.seqK fun K17 hK17 => ?_
    refine W.block ?_
    refine W.seqK fun K18 hK18 => ?_
    refine W.region ?_
    refine WL.move (v := .slice a2 x1.length c3) h11_0 ?_
    refine WL.move (v := .int .i64 x12) h11_5 ?_
    obtain ⟨x19, hxx19, hf⟩ := bindE hf
    refine WL.indexAddr hs 0 rfl UN33 TI3 rfl rfl hxx19 (fun ad20 hs => ?_)
    refine WL.loadP hs 0 rfl TI3 (.inr rfl) rfl (fun v21 hs => ?_)
    obtain rfl := hs.int 0 rfl
    refine WL.move (v := .int .i64 x4) h11_1 ?_
    refine WL.bin (v := .bool (x19 == x4)) rfl rfl (ib_eql _ _ _) ?_
    refine WL.nil ?_
    refine hK18 _ _ ?_
    rcases iteE hf with ⟨hc22, hf⟩ | ⟨hc22, hf⟩
    · refine W.cond_true (bool_tr rfl hc22) ?_
      refine W.seqK fun K23 hK23 => ?_
      refine W.region ?_
      refine WL.assign (v := .bool true) rfl ?_
      refine WL.nil ?_
      refine hK23 _ _ ?_
      refine W.ret ?_
      have hr := Option.some.inj hf; subst hr
      have hr := hbbs13 _ rfl; subst hr
      have hf := hfs13
      have hr := Option.some.inj hf; subst hr
      exact ⟨_, resOk_one rfl rfl, (), rfl, (hs.mask []).pick []⟩
    · refine W.cond_false (bool_tr rfl hc22) ?_
      refine W.skip ?_
      refine hK17 _ _ ?_
      refine W.region ?_
      refine WL.move (v := .int .i64 x12) h11_5 ?_
      obtain ⟨x24, ex24, hf⟩ := letE hf
      refine WL.bin (v := .int .i64 x24) rfl rfl (ib_as ex24 (ib_add _ _ _)) ?_
      refine WL.assign (v := .int .i64 x24) rfl ?_
      refine WL.nil ?_
      exact ⟨_, (Option.some.inj hf).symm, h11_0, h11_1, rfl, (hs.mask []).pick [2]⟩
  · refine W.cond_false (bool_tr rfl hc16) ?_
    refine W.exit ?_
    have hr := Option.some.inj hf; subst hr
    have hr := hbbs13 _ rfl; subst hr
    have hf := hfs13
    exact Jk8  _ _  ((hs.mask []).pick []) hf
/-! elasticstore/elasticstoreref10.joins: function 60 -/
theorem esref10_joins.calls {ok : Nat → Prop} {w0 : World} {x1 : List api_Change} {x4 : Int} {a2 : Option Addr} {c3 : Nat} {r : Bool} (hf : esref10_joins x1 x4 = some r) (i0 : (vl (tSlice t_api_Change) x1 (.slice a2 x1.length c3)).holds ok w0) :
    Calls Tryd.prog 60 #[.slice a2 x1.length c3, .int .i64 x4] w0 fun e w' => ∃ v, e = .returned v ∧ ∃ y : Unit, v = .bool r ∧ St ok (bz w0) w' [] [] := by
  unfold esref10_joins at hf
  refine calls_of_W (fn := Tryd.f60) (N := 27) Tryd.func60 rfl Tryd.ntmps60 rfl ?_
  have hs : St ok (bz w0) w0 [vl (tSlice t_api_Change) x1 (.slice a2 x1.length c3)] [] := St.init (All.cons i0 All.nil)
  clear i0
  refine W.seqK fun K5 hK5 => ?_
  refine W.region ?_
  refine WL.assign (v := .bool false) rfl ?_
  refine WL.nil ?_
  refine hK5 _ _ ?_
  refine W.seqK fun K6 hK6 => ?_
  have Jk8 : ∀  (ρ : Env) (w : World), St ok (bz w0) w [] [] → esref10_joins.j1 = some r → K6 ρ w := by
    intro  ρ w  hs hf
    refine hK6 _ _ ?_
    unfold esref10_joins.j1 at hf
    refine W.seqK fun K9 hK9 => ?_
    refine W.region ?_
    refine WL.assign (v := .bool false) rfl ?_
    refine WL.nil ?_
    refine hK9 _ _ ?_
    refine W.ret ?_
    have hr := Option.some.inj hf; subst hr
    exact ⟨_, resOk_one rfl rfl, (), rfl, (hs.mask []).pick []⟩
  refine W.seqK fun K10 hK10 => ?_
  refine W.region ?_
  refine WL.assign (v := .int .i64 0) rfl ?_
  refine WL.nil ?_
  refine hK10 _ _ ?_
  refine W.block ?_
  obtain ⟨bs13, hbs13, hfs13⟩ := bindE hf
  refine W.loop hbs13 (fun s ρ w => match s with | x12 => ρ 0 = .slice a2 x1.length c3 ∧ ρ 1 = .int .i64 x4 ∧ ρ 5 = .int .i64 x12 ∧ St ok (bz w0) w [vl (tSlice t_api_Change) x1 (.slice a2 x1.length c3)] []) ⟨rfl, rfl, rfl, (hs.mask []).pick [0]⟩ ?_
  intro x12 ρ w os13 hI hf hbbs13
  obtain ⟨h11_0, h11_1, h11_5, hs⟩ := hI
  unfold esref10_joins.l1 at hf
  refine W.seqK fun K14 hK14 => ?_
  refine W.seqK fun K15 hK15 => ?_
  refine W.region ?_
  refine WL.move (v := .int .i64 x12) h11_5 ?_
  refine WL.move (v := .slice a2 x1.length c3) h11_0 ?_
  refine WL.len (v := .slice a2 x1.length c3) rfl (len_slice UN38) ?_
  refine WL.bin (v := .bool (decide (x12 < (x1.length : Int)))) rfl rfl (ib_lss _ _ _) ?_
  refine WL.nil ?_
  refine hK15 _ _ ?_
  rcases iteE hf with ⟨hc16, hf⟩ | ⟨hc16, hf⟩
  · refine W.cond_true (bool_tr rfl hc16) ?_
    refine W.skip ?_
    refine hK14 _ _ ?_
    refine W.seqK fun K17 hK17 => ?_
    refine W.block ?_
    refine W.seqK fun K18 hK18 => ?_
    have Jk21 : ∀ (x20 : Bool) (ρ : Env) (w : World), ρ 0 = .slice a2 x1.length c3 → ρ 1 = .int .i64 x4 → ρ 5 = .int .i64 x12 → ρ 26 = .bool x20 → St ok (bz w0) w [vl (tSlice t_api_Change) x1 (.slice a2 x1.length c3)] [] → esref10_joins.j2 x12 x20 = some os13 → K18 ρ w := by
      intro x20 ρ w h19_0 h19_1 h19_5 h19_26 hs hf
      refine hK18 _ _ ?_
      unfold esref10_joins.j2 at hf
      rcases iteE hf with ⟨hc22, hf⟩ | ⟨hc22, hf⟩
      · refine W.cond_true (bool_tr h19_26 hc22) ?_
        refine W.seqK fun K23 hK23 => ?_
        refine W.region ?_
        refine WL.assign (v := .bool true) rfl ?_
        refine WL.nil ?_
        refine hK23 _ _ ?_
        refine W.ret ?_
        have hr := Option.some.inj hf; subst hr
        have hr := hbbs13 _ rfl; subst hr
        have hf := hfs13
        have hr := Option.some.inj hf; subst hr
        exact ⟨_, resOk_one rfl rfl, (), rfl, (hs.mask []).pick []⟩
      · refine W.cond_false (bool_tr h19_26 hc22) ?_
        refine W.skip ?_
        refine hK17 _ _ ?_
        refine W.region ?_
        refine WL.move (v := .int .i64 x12) h19_5 ?_
        obtain ⟨x24, ex24, hf⟩ := letE hf
        refine WL.bin (v := .int .i64 x24) rfl rfl (ib_as ex24 (ib_add _ _ _)) ?_
        refine WL.assign (v := .int .i64 x24) rfl ?_
        refine WL.nil ?_
        exact ⟨_, (Option.some.inj hf).symm, h19_0, h19_1, rfl, (hs.mask []).pick [0]⟩
    refine W.region ?_
    refine WL.move (v := .slice a2 x1.length c3) h11_0 ?_
    refine WL.move (v := .int .i64 x12) h11_5 ?_
    obtain ⟨x25, hxx25, hf⟩ := bindE hf
    refine WL.indexAddr hs 0 rfl UN38 TI26 rfl rfl hxx25 (fun ad26 hs => ?_)
    refine WL.fieldAddrP (z := x25.Kind) F_api_Change_Kind hs 0 rfl rfl FA26_0 rfl (fun ad27 hs => ?_)
    refine WL.loadP hs 0 rfl TI3 (.inr rfl) rfl (fun v28 hs => ?_)
    obtain rfl := hs.int 0 rfl
    refine WL.bin (v := .bool (x25.Kind == 1)) rfl rfl (ib_eql _ _ _) ?_
    refine WL.move (v := .bool (x25.Kind == 1)) rfl ?_
    rcases iteE hf with ⟨hc29, hf⟩ | ⟨hc29, hf⟩
    · refine WL.move (v := .slice a2 x1.length c3) h11_0 ?_ (hg := (wanted_of rfl rfl (bool_tr rfl hc29)).trans rfl)
      refine WL.move (v := .int .i64 x12) h11_5 ?_ (hg := (wanted_of rfl rfl (bool_tr rfl hc29)).trans rfl)
      obtain ⟨x30, hxx30, hf⟩ := bindE hf
      refine WL.indexAddr hs 3 rfl UN38 TI26 rfl rfl hxx30 (fun ad31 hs => ?_) (hg := (wanted_of rfl rfl (bool_tr rfl hc29)).trans rfl)
      refine WL.fieldAddrP (z := x30.Server) F_api_Change_Server hs 0 rfl rfl FA26_1 rfl (fun ad32 hs => ?_) (hg := (wanted_of rfl rfl (bool_tr rfl hc29)).trans rfl)
      refine WL.loadP hs 0 rfl TI3 (.inr rfl) rfl (fun v33 hs => ?_) (hg := (wanted_of rfl rfl (bool_tr rfl hc29)).trans rfl)
      obtain rfl := hs.int 0 rfl
      refine WL.move (v := .int .i64 x4) h11_1 ?_ (hg := (wanted_of rfl rfl (bool_tr rfl hc29)).trans rfl)
      refine WL.bin (v := .bool (x30.Server == x4)) rfl rfl (ib_eql _ _ _) ?_ (hg := (wanted_of rfl rfl (bool_tr rfl hc29)).trans rfl)
      refine WL.pickT (v := .bool (x30.Server == x4)) (bool_tr rfl hc29) rfl ?_
      refine WL.nil ?_
      exact Jk21 (x30.Server == x4) _ _ h11_0 h11_1 h11_5 rfl ((hs.mask []).pick [6]) hf
    · refine WL.pass ((wanted_of rfl rfl (bool_tr rfl hc29)).trans rfl) rfl ?_
      refine WL.pass ((wanted_of rfl rfl (bool_tr rfl hc29)).trans rfl) rfl ?_
      refine WL.pass ((wanted_of rfl rfl (bool_tr rfl hc29)).trans rfl) rfl ?_
      refine WL.pass ((wanted_of rfl rfl (bool_tr rfl hc29)).trans rfl) rfl ?_
      refine WL.pass ((wanted_of rfl rfl (bool_tr rfl hc29)).trans rfl) rfl ?_
      refine WL.pass ((wanted_of rfl rfl (bool_tr rfl hc29)).trans rfl) rfl ?_
      refine WL.pass ((wanted_of rfl rfl (bool_tr rfl hc29)).trans rfl) rfl ?_
      refine WL.pickF (v := .bool false) (bool_tr rfl hc29) rfl ?_
      refine WL.nil ?_
      exact Jk21 false _ _ h11_0 h11_1 h11_5 rfl ((hs.mask []).pick [3]) hf
  · refine W.cond_false (bool_tr rfl hc16) ?_
    refine W.exit ?_
    have hr := Option.some.inj hf; subst hr
    have hr := hbbs13 _ rfl; subst hr
    have hf := hfs13
    exact Jk8  _ _  ((hs.mask []).pick []) hf
/-! elasticstore/elasticstoreref10.entryVersion: function 61 -/
theorem esref10_entryVersion.calls {ok : Nat → Prop} {w0 : World} {x1 : api_Summary} {x5 : Int} {v2 : Value} {r : Int} (hf : esref10_entryVersion x1 x5 = some r) (i0 : (vl t_api_Summary x1 v2).holds ok w0) :
    Calls Tryd.prog 61 #[v2, .int .i64 x5] w0 fun e w' => ∃ v, e = .returned v ∧ ∃ y : Unit, v = .int .i64 r ∧ St ok (bz w0) w' [] [] := by
  unfold esref10_entryVersion at hf
  refine calls_of_W (fn := Tryd.f61) (N := 27) Tryd.func61 rfl Tryd.ntmps61 rfl ?_
  have hs : St ok (bz w0) w0 [vl t_api_Summary x1 v2] [] := St.init (All.cons i0 All.nil)
  clear i0
  obtain ⟨cs3, hl4, rfl⟩ := hs.aggv (n := 9) 0 rfl rfl rfl
  refine W.seqK fun K6 hK6 => ?_
  refine W.region ?_
  refine WL.box (vs := cs3) hs rfl rfl (fun g7 w hs => ?_)
  refine WL.assign (v := .int .i64 0) rfl ?_
  refine WL.nil ?_
  refine hK6 _ _ ?_
  refine W.seqK fun K8 hK8 => ?_
  have Jk10 : ∀  (ρ : Env) (w : World), St ok (bz w0) w [] [] → esref10_entryVersion.j1 = some r → K8 ρ w := by
    intro  ρ w  hs hf
    refine hK8 _ _ ?_
    unfold esref10_entryVersion.j1 at hf
    refine W.seqK fun K11 hK11 => ?_
    refine W.region ?_
    refine WL.assign (v := .int .i64 0) rfl ?_
    refine WL.nil ?_
    refine hK11 _ _ ?_
    refine W.ret ?_
    have hr := Option.some.inj hf; subst hr
    exact ⟨_, resOk_one rfl rfl, (), rfl, (hs.mask []).pick []⟩
  refine W.seqK fun K12 hK12 => ?_
  refine W.region ?_
  refine WL.assign (v := .int .i64 0) rfl ?_
  refine WL.nil ?_
  refine hK12 _ _ ?_
  refine W.block ?_
  obtain ⟨bs15, hbs15, hfs15⟩ := bindE hf
  refine W.loop hbs15 (fun s ρ w => match s with | x14 => ρ 1 = .int .i64 x5 ∧ ρ 2 = .pointer (some ⟨g7, 0, none⟩) ∧ ρ 5 = .int .i64 x14 ∧ St ok (bz w0) w [vl t_api_Summary x1 (.agg cs3.toArray)] [blk g7 36 cs3]) ⟨rfl, rfl, rfl, (hs.mask [true]).pick [0]⟩ ?_
  intro x14 ρ w os15 hI hf hbbs15
  obtain ⟨h13_1, h13_2, h13_5, hs⟩ := hI
  unfold esref10_entryVersion.l1 at hf
  refine W.seqK fun K16 hK16 => ?_
  refine W.seqK fun K17 hK17 => ?_
  refine W.region ?_
  refine WL.move (v := .int .i64 x14) h13_5 ?_
  refine WL.fieldAddr (m := 2) h13_2 FA36_2 rfl ?_
  refine WL.loadF (z := x1.Weights) F_api_Summary_Weights hs 0 rfl 0 rfl rfl TI34 (.inr rfl) rfl rfl (fun v18 hs => ?_)
  obtain ⟨a19, c20, rfl⟩ := hs.slice 0 rfl
  refine WL.len (v := .slice a19 (x1.Weights).length c20) rfl (len_slice UN34) ?_
  refine WL.bin (v := .bool (decide (x14 < ((x1.Weights).length : Int)))) rfl rfl (ib_lss _ _ _) ?_
  refine WL.nil ?_
  refine hK17 _ _ ?_
  rcases iteE hf with ⟨hc21, hf⟩ | ⟨hc21, hf⟩
  · refine W.cond_true (bool_tr rfl hc21) ?_
    refine W.skip ?_
    refine hK16 _ _ ?_
    refine W.seqK fun K22 hK22 => ?_
    refine W.block ?_
    refine W.seqK fun K23 hK23 => ?_
    refine W.region ?_
    refine WL.fieldAddr (m := 2) h13_2 FA36_2 rfl ?_
    refine WL.loadF (z := x1.Weights) F_api_Summary_Weights hs 0 rfl 1 rfl rfl TI34 (.inr rfl) rfl rfl (fun v24 hs => ?_)
    obtain ⟨a25, c26, rfl⟩ := hs.slice 0 rfl
    refine WL.move (v := .int .i64 x14) h13_5 ?_
    obtain ⟨x27, hxx27, hf⟩ := bindE hf
    refine WL.indexAddr hs 0 rfl UN34 TI59 rfl rfl hxx27 (fun ad28 hs => ?_)
    refine WL.fieldAddrP (z := x27.Server) F_api_WeightEntry_Server hs 0 rfl rfl FA59_0 rfl (fun ad29 hs => ?_)
    refine WL.loadP hs 0 rfl TI3 (.inr rfl) rfl (fun v30 hs => ?_)
    obtain rfl := hs.int 0 rfl
    refine WL.move (v := .int .i64 x5) h13_1 ?_
    refine WL.bin (v := .bool (x27.Server == x5)) rfl rfl (ib_eql _ _ _) ?_
    refine WL.nil ?_
    refine hK23 _ _ ?_
    rcases iteE hf with ⟨hc31, hf⟩ | ⟨hc31, hf⟩
    · refine W.cond_true (bool_tr rfl hc31) ?_
      refine W.seqK fun K32 hK32 => ?_
      refine W.region ?_
      refine WL.fieldAddr (m := 2) h13_2 FA36_2 rfl ?_
      refine WL.loadF (z := x1.Weights) F_api_Summary_Weights hs 0 rfl 5 rfl rfl TI34 (.inr rfl) rfl rfl (fun v33 hs => ?_)
      obtain ⟨a34, c35, rfl⟩ := hs.slice 0 rfl
      refine WL.move (v := .int .i64 x14) h13_5 ?_
      obtain ⟨x36, hxx36, hf⟩ := bindE hf
      refine WL.indexAddr hs 0 rfl UN34 TI59 rfl rfl hxx36 (fun ad37 hs => ?_)
      refine WL.fieldAddrP (z := x36.Version) F_api_WeightEntry_Version hs 0 rfl rfl FA59_2 rfl (fun ad38 hs => ?_)
      refine WL.loadP hs 0 rfl TI3 (.inr rfl) rfl (fun v39 hs => ?_)
      obtain rfl := hs.int 0 rfl
      refine WL.assign (v := .int .i64 x36.Version) rfl ?_
      refine WL.nil ?_
      refine hK32 _ _ ?_
      refine W.ret ?_
      have hr := Option.some.inj hf; subst hr
      have hr := hbbs15 _ rfl; subst hr
      have hf := hfs15
      have hr := Option.some.inj hf; subst hr
      exact ⟨_, resOk_one rfl rfl, (), rfl, (hs.mask []).pick []⟩
    · refine W.cond_false (bool_tr rfl hc31) ?_
      refine W.skip ?_
      refine hK22 _ _ ?_
      refine W.region ?_
      refine WL.move (v := .int .i64 x14) h13_5 ?_
      obtain ⟨x40, ex40, hf⟩ := letE hf
      refine WL.bin (v := .int .i64 x40) rfl rfl (ib_as ex40 (ib_add _ _ _)) ?_
      refine WL.assign (v := .int .i64 x40) rfl ?_
      refine WL.nil ?_
      exact ⟨_, (Option.some.inj hf).symm, h13_1, h13_2, rfl, (hs.mask [true]).pick [5]⟩
  · refine W.cond_false (bool_tr rfl hc21) ?_
    refine W.exit ?_
    have hr := Option.some.inj hf; subst hr
    have hr := hbbs15 _ rfl; subst hr
    have hf := hfs15
    exact Jk10  _ _  ((hs.mask []).pick []) hf
end Go.Proofs.YthfoljpjhegkmaaDoor
