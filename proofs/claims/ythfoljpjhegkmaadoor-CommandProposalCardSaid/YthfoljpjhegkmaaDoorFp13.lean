import Derived.Test.YthfoljpjhegkmaaDoorFh
import Derived.Test.YthfoljpjhegkmaaDoorFp12
set_option linter.unusedVariables false
set_option linter.unusedSimpArgs false
namespace Go.Proofs.YthfoljpjhegkmaaDoor
open Go Go.RowKit Go.Proofs.YthfoljpjhegkmaaDoorL
set_option maxRecDepth 100000
set_option maxHeartbeats 4000000
/-! elasticstore/elasticstoreref06.ValidateChange: function 28 -/
theorem esref06_ValidateChange.calls {ok : Nat → Prop} {w0 : World} {x1 : api_Change} {v2 : Value} {r : Int} (hf : esref06_ValidateChange x1 = some r) (i0 : (vl t_api_Change x1 v2).holds ok w0) :
    Calls Tryd.prog 28 #[v2] w0 fun e w' => ∃ v, e = .returned v ∧ ∃ y : Unit, v = .int .i64 r ∧ St ok (bz w0) w' [] [] := by
  unfold esref06_ValidateChange at hf
  refine calls_of_W (fn := Tryd.f28) (N := 113) Tryd.func28 rfl Tryd.ntmps28 rfl ?_
  have hs : St ok (bz w0) w0 [vl t_api_Change x1 v2] [] := St.init (All.cons i0 All.nil)
  clear i0
  obtain ⟨cs3, hl4, rfl⟩ := hs.aggv (n := 7) 0 rfl rfl rfl
  refine W.seqK fun K5 hK5 => ?_
  refine W.region ?_
  refine WL.box (vs := cs3) hs rfl rfl (fun g6 w hs => ?_)
  refine WL.assign (v := .int .i64 0) rfl ?_
  refine WL.nil ?_
  refine hK5 _ _ ?_
  refine W.seqK fun K7 hK7 => ?_
  have Jk13 : ∀ (x9 : Bool) (x10 : Bool) (x11 : Bool) (x12 : Bool) (ρ : Env) (w : World), ρ 1 = .pointer (some ⟨g6, 0, none⟩) → ρ 3 = .bool x9 → ρ 4 = .bool x10 → ρ 5 = .bool x11 → ρ 6 = .bool x12 → St ok (bz w0) w [vl t_api_Change x1 (.agg cs3.toArray)] [blk g6 26 cs3] → esref06_ValidateChange.j5 x1 x9 x10 x11 x12 = some r → K7 ρ w := by
    intro x9 x10 x11 x12 ρ w h8_1 h8_3 h8_4 h8_5 h8_6 hs hf
    refine hK7 _ _ ?_
    unfold esref06_ValidateChange.j5 at hf
    refine W.seqK fun K14 hK14 => ?_
    refine W.block ?_
    refine W.seqK fun K15 hK15 => ?_
    have Jk18 : ∀ (x17 : Bool) (ρ : Env) (w : World), ρ 1 = .pointer (some ⟨g6, 0, none⟩) → ρ 3 = .bool x9 → ρ 4 = .bool x10 → ρ 5 = .bool x11 → ρ 6 = .bool x12 → ρ 19 = .bool x17 → St ok (bz w0) w [vl t_api_Change x1 (.agg cs3.toArray)] [blk g6 26 cs3] → esref06_ValidateChange.j4 x1 x9 x10 x11 x12 x17 = some r → K15 ρ w := by
      intro x17 ρ w h16_1 h16_3 h16_4 h16_5 h16_6 h16_19 hs hf
      refine hK15 _ _ ?_
      unfold esref06_ValidateChange.j4 at hf
      rcases iteE hf with ⟨hc19, hf⟩ | ⟨hc19, hf⟩
      {
      refine W.cond_true (bool_tr h16_19 hc19) ?_
      refine W.seqK fun K20 hK20 => ?_
      refine W.region ?_
      refine WL.assign (v := .int .i64 10) rfl ?_
      refine WL.nil ?_
      refine hK20 _ _ ?_
      refine W.ret ?_
      have hr := Option.some.inj hf; subst hr
      exact ⟨_, resOk_one rfl rfl, (), rfl, (hs.mask []).pick []⟩ }
      {
      refine W.cond_false (bool_tr h16_19 hc19) ?_
      refine W.seqK fun K21 hK21 => ?_
      have Jk24 : ∀ (x23 : Bool) (ρ : Env) (w : World), ρ 1 = .pointer (some ⟨g6, 0, none⟩) → ρ 3 = .bool x9 → ρ 4 = .bool x10 → ρ 5 = .bool x11 → ρ 6 = .bool x12 → ρ 34 = .bool x23 → St ok (bz w0) w [vl t_api_Change x1 (.agg cs3.toArray)] [blk g6 26 cs3] → esref06_ValidateChange.j3 x1 x9 x10 x11 x12 x23 = some r → K21 ρ w := by
        intro x23 ρ w h22_1 h22_3 h22_4 h22_5 h22_6 h22_34 hs hf
        refine hK21 _ _ ?_
        unfold esref06_ValidateChange.j3 at hf
        rcases iteE hf with ⟨hc25, hf⟩ | ⟨hc25, hf⟩
        {
        refine W.cond_true (bool_tr h22_34 hc25) ?_
        refine W.seqK fun K26 hK26 => ?_
        refine W.region ?_
        refine WL.assign (v := .int .i64 9) rfl ?_
        refine WL.nil ?_
        refine hK26 _ _ ?_
        refine W.ret ?_
        have hr := Option.some.inj hf; subst hr
        exact ⟨_, resOk_one rfl rfl, (), rfl, (hs.mask []).pick []⟩ }
        {
        refine W.cond_false (bool_tr h22_34 hc25) ?_
        refine W.seqK fun K27 hK27 => ?_
        have Jk30 : ∀ (x29 : Bool) (ρ : Env) (w : World), ρ 1 = .pointer (some ⟨g6, 0, none⟩) → ρ 3 = .bool x9 → ρ 4 = .bool x10 → ρ 5 = .bool x11 → ρ 6 = .bool x12 → ρ 51 = .bool x29 → St ok (bz w0) w [vl t_api_Change x1 (.agg cs3.toArray)] [blk g6 26 cs3] → esref06_ValidateChange.j2 x1 x9 x10 x11 x12 x29 = some r → K27 ρ w := by
          intro x29 ρ w h28_1 h28_3 h28_4 h28_5 h28_6 h28_51 hs hf
          refine hK27 _ _ ?_
          unfold esref06_ValidateChange.j2 at hf
          rcases iteE hf with ⟨hc31, hf⟩ | ⟨hc31, hf⟩
          {
          refine W.cond_true (bool_tr h28_51 hc31) ?_
          refine W.seqK fun K32 hK32 => ?_
          refine W.region ?_
          refine WL.assign (v := .int .i64 9) rfl ?_
          refine WL.nil ?_
          refine hK32 _ _ ?_
          refine W.ret ?_
          have hr := Option.some.inj hf; subst hr
          exact ⟨_, resOk_one rfl rfl, (), rfl, (hs.mask []).pick []⟩ }
          {
          refine W.cond_false (bool_tr h28_51 hc31) ?_
          refine W.seqK fun K33 hK33 => ?_
          have Jk36 : ∀ (x35 : Bool) (ρ : Env) (w : World), ρ 1 = .pointer (some ⟨g6, 0, none⟩) → ρ 6 = .bool x12 → ρ 77 = .bool x35 → St ok (bz w0) w [vl t_api_Change x1 (.agg cs3.toArray)] [blk g6 26 cs3] → esref06_ValidateChange.j1 x1 x12 x35 = some r → K33 ρ w := by
            intro x35 ρ w h34_1 h34_6 h34_77 hs hf
            refine hK33 _ _ ?_
            unfold esref06_ValidateChange.j1 at hf
            rcases iteE hf with ⟨hc37, hf⟩ | ⟨hc37, hf⟩
            {
            refine W.cond_true (bool_tr h34_77 hc37) ?_
            refine W.seqK fun K38 hK38 => ?_
            refine W.region ?_
            refine WL.assign (v := .int .i64 9) rfl ?_
            refine WL.nil ?_
            refine hK38 _ _ ?_
            refine W.ret ?_
            have hr := Option.some.inj hf; subst hr
            exact ⟨_, resOk_one rfl rfl, (), rfl, (hs.mask []).pick []⟩ }
            {
            refine W.cond_false (bool_tr h34_77 hc37) ?_
            refine W.seqK fun K39 hK39 => ?_
            refine W.region ?_
            refine WL.move (v := .bool x12) h34_6 ?_
            refine WL.assign (v := .bool x12) rfl ?_
            refine WL.nil ?_
            refine hK39 _ _ ?_
            rcases iteE hf with ⟨hc40, hf⟩ | ⟨hc40, hf⟩
            {
            refine W.cond_true (bool_tr rfl hc40) ?_
            refine W.seqK fun K41 hK41 => ?_
            refine W.region ?_
            refine WL.fieldAddr (m := 4) h34_1 FA26_4 rfl ?_
            refine WL.loadF (z := x1.Rule) F_api_Change_Rule hs 0 rfl 0 rfl rfl TI24 (.inl rfl) rfl rfl (fun v42 hs => ?_)
            obtain ⟨cs43, hl44, rfl⟩ := hs.aggv (n := 3) 0 rfl rfl rfl
            obtain ⟨x45, hxx45, hf⟩ := bindE hf
            refine WL.call (vs := [.agg cs43.toArray]) hs FN35 ⟨rfl, trivial⟩ (fun ok hA => esref06_ValidateRule.calls (x1 := x1.Rule) hxx45 (hA.get 0 rfl)) ?_
            rintro _ w hs
            refine WL.assign (v := .int .i64 x45) rfl ?_
            refine WL.nil ?_
            refine hK41 _ _ ?_
            refine W.ret ?_
            have hr := Option.some.inj hf; subst hr
            exact ⟨_, resOk_one rfl rfl, (), rfl, (hs.mask []).pick []⟩ }
            {
            refine W.cond_false (bool_tr rfl hc40) ?_
            refine W.seqK fun K46 hK46 => ?_
            refine W.region ?_
            refine WL.fieldAddr (m := 4) h34_1 FA26_4 rfl ?_
            refine WL.loadF (z := x1.Rule) F_api_Change_Rule hs 0 rfl 0 rfl rfl TI24 (.inl rfl) rfl rfl (fun v47 hs => ?_)
            obtain ⟨cs48, hl49, rfl⟩ := hs.aggv (n := 3) 0 rfl rfl rfl
            refine WL.build (vs := []) (cs := [.int .i64 0, .int .i64 0, .int .i64 0]) trivial (bld PL24 rfl) ?_
            obtain rfl := open_api_Rule hs 0 rfl
            refine WL.eqA rfl rfl EG24 (NQ24 (⟨x1.Rule.Kind, x1.Rule.Columns, x1.Rule.Faulty⟩ : api_Rule) (⟨0, 0, 0⟩ : api_Rule)) ?_
            refine WL.assign (v := .bool (!decide ((⟨x1.Rule.Kind, x1.Rule.Columns, x1.Rule.Faulty⟩ : api_Rule) = (⟨0, 0, 0⟩ : api_Rule)))) rfl ?_
            refine WL.nil ?_
            refine hK46 _ _ ?_
            rcases iteE hf with ⟨hc50, hf⟩ | ⟨hc50, hf⟩
            {
            refine W.cond_true (bool_tr rfl hc50) ?_
            refine W.seqK fun K51 hK51 => ?_
            refine W.region ?_
            refine WL.assign (v := .int .i64 2) rfl ?_
            refine WL.nil ?_
            refine hK51 _ _ ?_
            refine W.ret ?_
            have hr := Option.some.inj hf; subst hr
            exact ⟨_, resOk_one rfl rfl, (), rfl, (hs.mask []).pick []⟩ }
            {
            refine W.cond_false (bool_tr rfl hc50) ?_
            refine W.skip ?_
            refine hK14 _ _ ?_
            refine W.seqK fun K52 hK52 => ?_
            refine W.region ?_
            refine WL.assign (v := .int .i64 0) rfl ?_
            refine WL.nil ?_
            refine hK52 _ _ ?_
            refine W.ret ?_
            have hr := Option.some.inj hf; subst hr
            exact ⟨_, resOk_one rfl rfl, (), rfl, (hs.mask []).pick []⟩ } } }
          refine W.region ?_
          refine WL.move (v := .bool x11) h28_5 ?_
          refine WL.move (v := .bool x11) rfl ?_
          rcases iteE hf with ⟨hc53, hf⟩ | ⟨hc53, hf⟩
          {
          refine WL.pass ((wanted_of rfl rfl (bool_tr rfl hc53)).trans rfl) rfl ?_
          refine WL.pickT (v := .bool true) (bool_tr rfl hc53) rfl ?_
          refine WL.move (v := .bool true) rfl ?_
          refine WL.fieldAddr (m := 3) h28_1 FA26_3 rfl ?_ (hg := (wanted_of rfl rfl rfl).trans rfl)
          refine WL.loadF (z := x1.Version) F_api_Change_Version hs 0 rfl 0 rfl rfl TI3 (.inr rfl) rfl rfl (fun v54 hs => ?_) (hg := (wanted_of rfl rfl rfl).trans rfl)
          obtain rfl := hs.int 0 rfl
          refine WL.bin (v := .bool (decide (x1.Version < 1))) rfl rfl (ib_lss _ _ _) ?_ (hg := (wanted_of rfl rfl rfl).trans rfl)
          refine WL.move (v := .bool (decide (x1.Version < 1))) rfl ?_ (hg := (wanted_of rfl rfl rfl).trans rfl)
          rcases iteE hf with ⟨hc55, hf⟩ | ⟨hc55, hf⟩
          {
          refine WL.pass ((wanted_of rfl rfl (bool_tr rfl hc55)).trans rfl) rfl ?_
          refine WL.pass ((wanted_of rfl rfl (bool_tr rfl hc55)).trans rfl) rfl ?_
          refine WL.pass ((wanted_of rfl rfl (bool_tr rfl hc55)).trans rfl) rfl ?_
          refine WL.pickT (v := .bool true) (bool_tr rfl hc55) rfl ?_ (hg := (wanted_of rfl rfl rfl).trans rfl)
          refine WL.pickT (v := .bool true) rfl rfl ?_
          refine WL.move (v := .bool true) rfl ?_
          refine WL.pass ((wanted_of rfl rfl rfl).trans rfl) rfl ?_
          refine WL.pass ((wanted_of rfl rfl rfl).trans rfl) rfl ?_
          refine WL.pass (wanted_undef rfl rfl rfl) rfl ?_
          refine WL.pass ((wanted_of rfl rfl rfl).trans rfl) rfl ?_
          refine WL.pass ((wanted_of rfl rfl rfl).trans rfl) rfl ?_
          refine WL.pass (wanted_undef rfl rfl rfl) rfl ?_
          refine WL.pass (wanted_undef rfl rfl rfl) rfl ?_
          refine WL.pass (wanted_undef rfl rfl rfl) rfl ?_
          refine WL.pass ((wanted_of rfl rfl rfl).trans rfl) rfl ?_
          refine WL.pickT (v := .bool true) rfl rfl ?_
          refine WL.assign (v := .bool true) rfl ?_
          refine WL.nil ?_
          exact Jk36 true _ _ h28_1 h28_6 rfl ((hs.mask [true]).pick [1]) hf }
          {
          refine WL.fieldAddr (m := 3) h28_1 FA26_3 rfl ?_ (hg := (wanted_of rfl rfl (bool_tr rfl hc55)).trans rfl)
          refine WL.loadF (z := x1.Version) F_api_Change_Version hs 0 rfl 1 rfl rfl TI3 (.inr rfl) rfl rfl (fun v56 hs => ?_) (hg := (wanted_of rfl rfl (bool_tr rfl hc55)).trans rfl)
          obtain rfl := hs.int 0 rfl
          refine WL.bin (v := .bool (decide (1000 < x1.Version))) rfl rfl (ib_gtr _ _ _) ?_ (hg := (wanted_of rfl rfl (bool_tr rfl hc55)).trans rfl)
          refine WL.pickF (v := .bool (decide (1000 < x1.Version))) (bool_tr rfl hc55) rfl ?_ (hg := (wanted_of rfl rfl rfl).trans rfl)
          refine WL.pickT (v := .bool (decide (1000 < x1.Version))) rfl rfl ?_
          refine WL.move (v := .bool (decide (1000 < x1.Version))) rfl ?_
          rcases iteE hf with ⟨hc57, hf⟩ | ⟨hc57, hf⟩
          {
          refine WL.pass ((wanted_of rfl rfl (bool_tr rfl hc57)).trans rfl) rfl ?_
          refine WL.pass ((wanted_of rfl rfl (bool_tr rfl hc57)).trans rfl) rfl ?_
          refine WL.pass (wanted_undef rfl rfl rfl) rfl ?_
          refine WL.pass ((wanted_of rfl rfl (bool_tr rfl hc57)).trans rfl) rfl ?_
          refine WL.pass ((wanted_of rfl rfl (bool_tr rfl hc57)).trans rfl) rfl ?_
          refine WL.pass (wanted_undef rfl rfl rfl) rfl ?_
          refine WL.pass (wanted_undef rfl rfl rfl) rfl ?_
          refine WL.pass (wanted_undef rfl rfl rfl) rfl ?_
          refine WL.pass ((wanted_of rfl rfl (bool_tr rfl hc57)).trans rfl) rfl ?_
          refine WL.pickT (v := .bool true) (bool_tr rfl hc57) rfl ?_
          refine WL.assign (v := .bool true) rfl ?_
          refine WL.nil ?_
          exact Jk36 true _ _ h28_1 h28_6 rfl ((hs.mask [true]).pick [2]) hf }
          {
          refine WL.move (v := .bool x9) h28_3 ?_ (hg := (wanted_of rfl rfl (bool_tr rfl hc57)).trans rfl)
          refine WL.move (v := .bool x9) rfl ?_ (hg := (wanted_of rfl rfl (bool_tr rfl hc57)).trans rfl)
          rcases iteE hf with ⟨hc58, hf⟩ | ⟨hc58, hf⟩
          {
          refine WL.pass ((wanted_of rfl rfl (bool_tr rfl hc58)).trans rfl) rfl ?_
          refine WL.pickT (v := .bool true) (bool_tr rfl hc58) rfl ?_ (hg := (wanted_of rfl rfl (bool_tr rfl hc57)).trans rfl)
          refine WL.move (v := .bool true) rfl ?_ (hg := (wanted_of rfl rfl (bool_tr rfl hc57)).trans rfl)
          refine WL.fieldAddr (m := 3) h28_1 FA26_3 rfl ?_ (hg := (wanted_of rfl rfl rfl).trans rfl)
          refine WL.loadF (z := x1.Version) F_api_Change_Version hs 0 rfl 2 rfl rfl TI3 (.inr rfl) rfl rfl (fun v59 hs => ?_) (hg := (wanted_of rfl rfl rfl).trans rfl)
          obtain rfl := hs.int 0 rfl
          refine WL.bin (v := .bool (x1.Version != 0)) rfl rfl (ib_neq _ _ _) ?_ (hg := (wanted_of rfl rfl rfl).trans rfl)
          refine WL.pickT (v := .bool (x1.Version != 0)) rfl rfl ?_ (hg := (wanted_of rfl rfl (bool_tr rfl hc57)).trans rfl)
          refine WL.pickF (v := .bool (x1.Version != 0)) (bool_tr rfl hc57) rfl ?_
          refine WL.assign (v := .bool (x1.Version != 0)) rfl ?_
          refine WL.nil ?_
          exact Jk36 (x1.Version != 0) _ _ h28_1 h28_6 rfl ((hs.mask [true]).pick [3]) hf }
          {
          refine WL.move (v := .bool x10) h28_4 ?_ (hg := (wanted_of rfl rfl (bool_tr rfl hc58)).trans rfl)
          refine WL.pickF (v := .bool x10) (bool_tr rfl hc58) rfl ?_ (hg := (wanted_of rfl rfl (bool_tr rfl hc57)).trans rfl)
          refine WL.move (v := .bool x10) rfl ?_ (hg := (wanted_of rfl rfl (bool_tr rfl hc57)).trans rfl)
          rcases iteE hf with ⟨hc60, hf⟩ | ⟨hc60, hf⟩
          {
          refine WL.fieldAddr (m := 3) h28_1 FA26_3 rfl ?_ (hg := (wanted_of rfl rfl (bool_tr rfl hc60)).trans rfl)
          refine WL.loadF (z := x1.Version) F_api_Change_Version hs 0 rfl 2 rfl rfl TI3 (.inr rfl) rfl rfl (fun v61 hs => ?_) (hg := (wanted_of rfl rfl (bool_tr rfl hc60)).trans rfl)
          obtain rfl := hs.int 0 rfl
          refine WL.bin (v := .bool (x1.Version != 0)) rfl rfl (ib_neq _ _ _) ?_ (hg := (wanted_of rfl rfl (bool_tr rfl hc60)).trans rfl)
          refine WL.pickT (v := .bool (x1.Version != 0)) (bool_tr rfl hc60) rfl ?_ (hg := (wanted_of rfl rfl (bool_tr rfl hc57)).trans rfl)
          refine WL.pickF (v := .bool (x1.Version != 0)) (bool_tr rfl hc57) rfl ?_
          refine WL.assign (v := .bool (x1.Version != 0)) rfl ?_
          refine WL.nil ?_
          exact Jk36 (x1.Version != 0) _ _ h28_1 h28_6 rfl ((hs.mask [true]).pick [3]) hf }
          {
          refine WL.pass ((wanted_of rfl rfl (bool_tr rfl hc60)).trans rfl) rfl ?_
          refine WL.pass ((wanted_of rfl rfl (bool_tr rfl hc60)).trans rfl) rfl ?_
          refine WL.pass ((wanted_of rfl rfl (bool_tr rfl hc60)).trans rfl) rfl ?_
          refine WL.pickF (v := .bool false) (bool_tr rfl hc60) rfl ?_ (hg := (wanted_of rfl rfl (bool_tr rfl hc57)).trans rfl)
          refine WL.pickF (v := .bool false) (bool_tr rfl hc57) rfl ?_
          refine WL.assign (v := .bool false) rfl ?_
          refine WL.nil ?_
          exact Jk36 false _ _ h28_1 h28_6 rfl ((hs.mask [true]).pick [2]) hf } } } } }
          {
          refine WL.move (v := .bool x12) h28_6 ?_ (hg := (wanted_of rfl rfl (bool_tr rfl hc53)).trans rfl)
          refine WL.pickF (v := .bool x12) (bool_tr rfl hc53) rfl ?_
          refine WL.move (v := .bool x12) rfl ?_
          rcases iteE hf with ⟨hc62, hf⟩ | ⟨hc62, hf⟩
          {
          refine WL.fieldAddr (m := 3) h28_1 FA26_3 rfl ?_ (hg := (wanted_of rfl rfl (bool_tr rfl hc62)).trans rfl)
          refine WL.loadF (z := x1.Version) F_api_Change_Version hs 0 rfl 0 rfl rfl TI3 (.inr rfl) rfl rfl (fun v63 hs => ?_) (hg := (wanted_of rfl rfl (bool_tr rfl hc62)).trans rfl)
          obtain rfl := hs.int 0 rfl
          refine WL.bin (v := .bool (decide (x1.Version < 1))) rfl rfl (ib_lss _ _ _) ?_ (hg := (wanted_of rfl rfl (bool_tr rfl hc62)).trans rfl)
          refine WL.move (v := .bool (decide (x1.Version < 1))) rfl ?_ (hg := (wanted_of rfl rfl (bool_tr rfl hc62)).trans rfl)
          rcases iteE hf with ⟨hc64, hf⟩ | ⟨hc64, hf⟩
          {
          refine WL.pass ((wanted_of rfl rfl (bool_tr rfl hc64)).trans rfl) rfl ?_
          refine WL.pass ((wanted_of rfl rfl (bool_tr rfl hc64)).trans rfl) rfl ?_
          refine WL.pass ((wanted_of rfl rfl (bool_tr rfl hc64)).trans rfl) rfl ?_
          refine WL.pickT (v := .bool true) (bool_tr rfl hc64) rfl ?_ (hg := (wanted_of rfl rfl (bool_tr rfl hc62)).trans rfl)
          refine WL.pickT (v := .bool true) (bool_tr rfl hc62) rfl ?_
          refine WL.move (v := .bool true) rfl ?_
          refine WL.pass ((wanted_of rfl rfl rfl).trans rfl) rfl ?_
          refine WL.pass ((wanted_of rfl rfl rfl).trans rfl) rfl ?_
          refine WL.pass (wanted_undef rfl rfl rfl) rfl ?_
          refine WL.pass ((wanted_of rfl rfl rfl).trans rfl) rfl ?_
          refine WL.pass ((wanted_of rfl rfl rfl).trans rfl) rfl ?_
          refine WL.pass (wanted_undef rfl rfl rfl) rfl ?_
          refine WL.pass (wanted_undef rfl rfl rfl) rfl ?_
          refine WL.pass (wanted_undef rfl rfl rfl) rfl ?_
          refine WL.pass ((wanted_of rfl rfl rfl).trans rfl) rfl ?_
          refine WL.pickT (v := .bool true) rfl rfl ?_
          refine WL.assign (v := .bool true) rfl ?_
          refine WL.nil ?_
          exact Jk36 true _ _ h28_1 h28_6 rfl ((hs.mask [true]).pick [1]) hf }
          {
          refine WL.fieldAddr (m := 3) h28_1 FA26_3 rfl ?_ (hg := (wanted_of rfl rfl (bool_tr rfl hc64)).trans rfl)
          refine WL.loadF (z := x1.Version) F_api_Change_Version hs 0 rfl 1 rfl rfl TI3 (.inr rfl) rfl rfl (fun v65 hs => ?_) (hg := (wanted_of rfl rfl (bool_tr rfl hc64)).trans rfl)
          obtain rfl := hs.int 0 rfl
          refine WL.bin (v := .bool (decide (1000 < x1.Version))) rfl rfl (ib_gtr _ _ _) ?_ (hg := (wanted_of rfl rfl (bool_tr rfl hc64)).trans rfl)
          refine WL.pickF (v := .bool (decide (1000 < x1.Version))) (bool_tr rfl hc64) rfl ?_ (hg := (wanted_of rfl rfl (bool_tr rfl hc62)).trans rfl)
          refine WL.pickT (v := .bool (decide (1000 < x1.Version))) (bool_tr rfl hc62) rfl ?_
          refine WL.move (v := .bool (decide (1000 < x1.Version))) rfl ?_
          rcases iteE hf with ⟨hc66, hf⟩ | ⟨hc66, hf⟩
          {
          refine WL.pass ((wanted_of rfl rfl (bool_tr rfl hc66)).trans rfl) rfl ?_
          refine WL.pass ((wanted_of rfl rfl (bool_tr rfl hc66)).trans rfl) rfl ?_
          refine WL.pass (wanted_undef rfl rfl rfl) rfl ?_
          refine WL.pass ((wanted_of rfl rfl (bool_tr rfl hc66)).trans rfl) rfl ?_
          refine WL.pass ((wanted_of rfl rfl (bool_tr rfl hc66)).trans rfl) rfl ?_
          refine WL.pass (wanted_undef rfl rfl rfl) rfl ?_
          refine WL.pass (wanted_undef rfl rfl rfl) rfl ?_
          refine WL.pass (wanted_undef rfl rfl rfl) rfl ?_
          refine WL.pass ((wanted_of rfl rfl (bool_tr rfl hc66)).trans rfl) rfl ?_
          refine WL.pickT (v := .bool true) (bool_tr rfl hc66) rfl ?_
          refine WL.assign (v := .bool true) rfl ?_
          refine WL.nil ?_
          exact Jk36 true _ _ h28_1 h28_6 rfl ((hs.mask [true]).pick [2]) hf }
          {
          refine WL.move (v := .bool x9) h28_3 ?_ (hg := (wanted_of rfl rfl (bool_tr rfl hc66)).trans rfl)
          refine WL.move (v := .bool x9) rfl ?_ (hg := (wanted_of rfl rfl (bool_tr rfl hc66)).trans rfl)
          rcases iteE hf with ⟨hc67, hf⟩ | ⟨hc67, hf⟩
          {
          refine WL.pass ((wanted_of rfl rfl (bool_tr rfl hc67)).trans rfl) rfl ?_
          refine WL.pickT (v := .bool true) (bool_tr rfl hc67) rfl ?_ (hg := (wanted_of rfl rfl (bool_tr rfl hc66)).trans rfl)
          refine WL.move (v := .bool true) rfl ?_ (hg := (wanted_of rfl rfl (bool_tr rfl hc66)).trans rfl)
          refine WL.fieldAddr (m := 3) h28_1 FA26_3 rfl ?_ (hg := (wanted_of rfl rfl rfl).trans rfl)
          refine WL.loadF (z := x1.Version) F_api_Change_Version hs 0 rfl 2 rfl rfl TI3 (.inr rfl) rfl rfl (fun v68 hs => ?_) (hg := (wanted_of rfl rfl rfl).trans rfl)
          obtain rfl := hs.int 0 rfl
          refine WL.bin (v := .bool (x1.Version != 0)) rfl rfl (ib_neq _ _ _) ?_ (hg := (wanted_of rfl rfl rfl).trans rfl)
          refine WL.pickT (v := .bool (x1.Version != 0)) rfl rfl ?_ (hg := (wanted_of rfl rfl (bool_tr rfl hc66)).trans rfl)
          refine WL.pickF (v := .bool (x1.Version != 0)) (bool_tr rfl hc66) rfl ?_
          refine WL.assign (v := .bool (x1.Version != 0)) rfl ?_
          refine WL.nil ?_
          exact Jk36 (x1.Version != 0) _ _ h28_1 h28_6 rfl ((hs.mask [true]).pick [3]) hf }
          {
          refine WL.move (v := .bool x10) h28_4 ?_ (hg := (wanted_of rfl rfl (bool_tr rfl hc67)).trans rfl)
          refine WL.pickF (v := .bool x10) (bool_tr rfl hc67) rfl ?_ (hg := (wanted_of rfl rfl (bool_tr rfl hc66)).trans rfl)
          refine WL.move (v := .bool x10) rfl ?_ (hg := (wanted_of rfl rfl (bool_tr rfl hc66)).trans rfl)
          rcases iteE hf with ⟨hc69, hf⟩ | ⟨hc69, hf⟩
          {
          refine WL.fieldAddr (m := 3) h28_1 FA26_3 rfl ?_ (hg := (wanted_of rfl rfl (bool_tr rfl hc69)).trans rfl)
          refine WL.loadF (z := x1.Version) F_api_Change_Version hs 0 rfl 2 rfl rfl TI3 (.inr rfl) rfl rfl (fun v70 hs => ?_) (hg := (wanted_of rfl rfl (bool_tr rfl hc69)).trans rfl)
          obtain rfl := hs.int 0 rfl
          refine WL.bin (v := .bool (x1.Version != 0)) rfl rfl (ib_neq _ _ _) ?_ (hg := (wanted_of rfl rfl (bool_tr rfl hc69)).trans rfl)
          refine WL.pickT (v := .bool (x1.Version != 0)) (bool_tr rfl hc69) rfl ?_ (hg := (wanted_of rfl rfl (bool_tr rfl hc66)).trans rfl)
          refine WL.pickF (v := .bool (x1.Version != 0)) (bool_tr rfl hc66) rfl ?_
          refine WL.assign (v := .bool (x1.Version != 0)) rfl ?_
          refine WL.nil ?_
          exact Jk36 (x1.Version != 0) _ _ h28_1 h28_6 rfl ((hs.mask [true]).pick [3]) hf }
          {
          refine WL.pass ((wanted_of rfl rfl (bool_tr rfl hc69)).trans rfl) rfl ?_
          refine WL.pass ((wanted_of rfl rfl (bool_tr rfl hc69)).trans rfl) rfl ?_
          refine WL.pass ((wanted_of rfl rfl (bool_tr rfl hc69)).trans rfl) rfl ?_
          refine WL.pickF (v := .bool false) (bool_tr rfl hc69) rfl ?_ (hg := (wanted_of rfl rfl (bool_tr rfl hc66)).trans rfl)
          refine WL.pickF (v := .bool false) (bool_tr rfl hc66) rfl ?_
          refine WL.assign (v := .bool false) rfl ?_
          refine WL.nil ?_
          exact Jk36 false _ _ h28_1 h28_6 rfl ((hs.mask [true]).pick [2]) hf } } } } }
          {
          refine WL.pass ((wanted_of rfl rfl (bool_tr rfl hc62)).trans rfl) rfl ?_
          refine WL.pass ((wanted_of rfl rfl (bool_tr rfl hc62)).trans rfl) rfl ?_
          refine WL.pass ((wanted_of rfl rfl (bool_tr rfl hc62)).trans rfl) rfl ?_
          refine WL.pass ((wanted_of rfl rfl (bool_tr rfl hc62)).trans rfl) rfl ?_
          refine WL.pass (wanted_undef rfl rfl rfl) rfl ?_
          refine WL.pass (wanted_undef rfl rfl rfl) rfl ?_
          refine WL.pass (wanted_undef rfl rfl rfl) rfl ?_
          refine WL.pass ((wanted_of rfl rfl (bool_tr rfl hc62)).trans rfl) rfl ?_
          refine WL.pickF (v := .bool false) (bool_tr rfl hc62) rfl ?_
          refine WL.move (v := .bool false) rfl ?_
          refine WL.move (v := .bool x9) h28_3 ?_ (hg := (wanted_of rfl rfl rfl).trans rfl)
          refine WL.move (v := .bool x9) rfl ?_ (hg := (wanted_of rfl rfl rfl).trans rfl)
          rcases iteE hf with ⟨hc71, hf⟩ | ⟨hc71, hf⟩
          {
          refine WL.pass ((wanted_of rfl rfl (bool_tr rfl hc71)).trans rfl) rfl ?_
          refine WL.pickT (v := .bool true) (bool_tr rfl hc71) rfl ?_ (hg := (wanted_of rfl rfl rfl).trans rfl)
          refine WL.move (v := .bool true) rfl ?_ (hg := (wanted_of rfl rfl rfl).trans rfl)
          refine WL.fieldAddr (m := 3) h28_1 FA26_3 rfl ?_ (hg := (wanted_of rfl rfl rfl).trans rfl)
          refine WL.loadF (z := x1.Version) F_api_Change_Version hs 0 rfl 0 rfl rfl TI3 (.inr rfl) rfl rfl (fun v72 hs => ?_) (hg := (wanted_of rfl rfl rfl).trans rfl)
          obtain rfl := hs.int 0 rfl
          refine WL.bin (v := .bool (x1.Version != 0)) rfl rfl (ib_neq _ _ _) ?_ (hg := (wanted_of rfl rfl rfl).trans rfl)
          refine WL.pickT (v := .bool (x1.Version != 0)) rfl rfl ?_ (hg := (wanted_of rfl rfl rfl).trans rfl)
          refine WL.pickF (v := .bool (x1.Version != 0)) rfl rfl ?_
          refine WL.assign (v := .bool (x1.Version != 0)) rfl ?_
          refine WL.nil ?_
          exact Jk36 (x1.Version != 0) _ _ h28_1 h28_6 rfl ((hs.mask [true]).pick [1]) hf }
          {
          refine WL.move (v := .bool x10) h28_4 ?_ (hg := (wanted_of rfl rfl (bool_tr rfl hc71)).trans rfl)
          refine WL.pickF (v := .bool x10) (bool_tr rfl hc71) rfl ?_ (hg := (wanted_of rfl rfl rfl).trans rfl)
          refine WL.move (v := .bool x10) rfl ?_ (hg := (wanted_of rfl rfl rfl).trans rfl)
          rcases iteE hf with ⟨hc73, hf⟩ | ⟨hc73, hf⟩
          {
          refine WL.fieldAddr (m := 3) h28_1 FA26_3 rfl ?_ (hg := (wanted_of rfl rfl (bool_tr rfl hc73)).trans rfl)
          refine WL.loadF (z := x1.Version) F_api_Change_Version hs 0 rfl 0 rfl rfl TI3 (.inr rfl) rfl rfl (fun v74 hs => ?_) (hg := (wanted_of rfl rfl (bool_tr rfl hc73)).trans rfl)
          obtain rfl := hs.int 0 rfl
          refine WL.bin (v := .bool (x1.Version != 0)) rfl rfl (ib_neq _ _ _) ?_ (hg := (wanted_of rfl rfl (bool_tr rfl hc73)).trans rfl)
          refine WL.pickT (v := .bool (x1.Version != 0)) (bool_tr rfl hc73) rfl ?_ (hg := (wanted_of rfl rfl rfl).trans rfl)
          refine WL.pickF (v := .bool (x1.Version != 0)) rfl rfl ?_
          refine WL.assign (v := .bool (x1.Version != 0)) rfl ?_
          refine WL.nil ?_
          exact Jk36 (x1.Version != 0) _ _ h28_1 h28_6 rfl ((hs.mask [true]).pick [1]) hf }
          {
          refine WL.pass ((wanted_of rfl rfl (bool_tr rfl hc73)).trans rfl) rfl ?_
          refine WL.pass ((wanted_of rfl rfl (bool_tr rfl hc73)).trans rfl) rfl ?_
          refine WL.pass ((wanted_of rfl rfl (bool_tr rfl hc73)).trans rfl) rfl ?_
          refine WL.pickF (v := .bool false) (bool_tr rfl hc73) rfl ?_ (hg := (wanted_of rfl rfl rfl).trans rfl)
          refine WL.pickF (v := .bool false) rfl rfl ?_
          refine WL.assign (v := .bool false) rfl ?_
          refine WL.nil ?_
          exact Jk36 false _ _ h28_1 h28_6 rfl ((hs.mask [true]).pick [0]) hf } } } } }
        refine W.region ?_
        refine WL.move (v := .bool x9) h22_3 ?_
        refine WL.move (v := .bool x9) rfl ?_
        rcases iteE hf with ⟨hc75, hf⟩ | ⟨hc75, hf⟩
        {
        refine WL.pass ((wanted_of rfl rfl (bool_tr rfl hc75)).trans rfl) rfl ?_
        refine WL.pickT (v := .bool true) (bool_tr rfl hc75) rfl ?_
        refine WL.move (v := .bool true) rfl ?_
        refine WL.fieldAddr (m := 2) h22_1 FA26_2 rfl ?_ (hg := (wanted_of rfl rfl rfl).trans rfl)
        refine WL.loadF (z := x1.Weight) F_api_Change_Weight hs 0 rfl 0 rfl rfl TI3 (.inr rfl) rfl rfl (fun v76 hs => ?_) (hg := (wanted_of rfl rfl rfl).trans rfl)
        obtain rfl := hs.int 0 rfl
        refine WL.bin (v := .bool (decide (x1.Weight < 1))) rfl rfl (ib_lss _ _ _) ?_ (hg := (wanted_of rfl rfl rfl).trans rfl)
        refine WL.move (v := .bool (decide (x1.Weight < 1))) rfl ?_ (hg := (wanted_of rfl rfl rfl).trans rfl)
        rcases iteE hf with ⟨hc77, hf⟩ | ⟨hc77, hf⟩
        {
        refine WL.pass ((wanted_of rfl rfl (bool_tr rfl hc77)).trans rfl) rfl ?_
        refine WL.pass ((wanted_of rfl rfl (bool_tr rfl hc77)).trans rfl) rfl ?_
        refine WL.pass ((wanted_of rfl rfl (bool_tr rfl hc77)).trans rfl) rfl ?_
        refine WL.pickT (v := .bool true) (bool_tr rfl hc77) rfl ?_ (hg := (wanted_of rfl rfl rfl).trans rfl)
        refine WL.pickT (v := .bool true) rfl rfl ?_
        refine WL.move (v := .bool true) rfl ?_
        refine WL.pass ((wanted_of rfl rfl rfl).trans rfl) rfl ?_
        refine WL.pass ((wanted_of rfl rfl rfl).trans rfl) rfl ?_
        refine WL.pass (wanted_undef rfl rfl rfl) rfl ?_
        refine WL.pass ((wanted_of rfl rfl rfl).trans rfl) rfl ?_
        refine WL.pass ((wanted_of rfl rfl rfl).trans rfl) rfl ?_
        refine WL.pass (wanted_undef rfl rfl rfl) rfl ?_
        refine WL.pass (wanted_undef rfl rfl rfl) rfl ?_
        refine WL.pass (wanted_undef rfl rfl rfl) rfl ?_
        refine WL.pass ((wanted_of rfl rfl rfl).trans rfl) rfl ?_
        refine WL.pickT (v := .bool true) rfl rfl ?_
        refine WL.assign (v := .bool true) rfl ?_
        refine WL.nil ?_
        exact Jk30 true _ _ h22_1 h22_3 h22_4 h22_5 h22_6 rfl ((hs.mask [true]).pick [1]) hf }
        {
        refine WL.fieldAddr (m := 2) h22_1 FA26_2 rfl ?_ (hg := (wanted_of rfl rfl (bool_tr rfl hc77)).trans rfl)
        refine WL.loadF (z := x1.Weight) F_api_Change_Weight hs 0 rfl 1 rfl rfl TI3 (.inr rfl) rfl rfl (fun v78 hs => ?_) (hg := (wanted_of rfl rfl (bool_tr rfl hc77)).trans rfl)
        obtain rfl := hs.int 0 rfl
        refine WL.bin (v := .bool (decide (9 < x1.Weight))) rfl rfl (ib_gtr _ _ _) ?_ (hg := (wanted_of rfl rfl (bool_tr rfl hc77)).trans rfl)
        refine WL.pickF (v := .bool (decide (9 < x1.Weight))) (bool_tr rfl hc77) rfl ?_ (hg := (wanted_of rfl rfl rfl).trans rfl)
        refine WL.pickT (v := .bool (decide (9 < x1.Weight))) rfl rfl ?_
        refine WL.move (v := .bool (decide (9 < x1.Weight))) rfl ?_
        rcases iteE hf with ⟨hc79, hf⟩ | ⟨hc79, hf⟩
        {
        refine WL.pass ((wanted_of rfl rfl (bool_tr rfl hc79)).trans rfl) rfl ?_
        refine WL.pass ((wanted_of rfl rfl (bool_tr rfl hc79)).trans rfl) rfl ?_
        refine WL.pass (wanted_undef rfl rfl rfl) rfl ?_
        refine WL.pass ((wanted_of rfl rfl (bool_tr rfl hc79)).trans rfl) rfl ?_
        refine WL.pass ((wanted_of rfl rfl (bool_tr rfl hc79)).trans rfl) rfl ?_
        refine WL.pass (wanted_undef rfl rfl rfl) rfl ?_
        refine WL.pass (wanted_undef rfl rfl rfl) rfl ?_
        refine WL.pass (wanted_undef rfl rfl rfl) rfl ?_
        refine WL.pass ((wanted_of rfl rfl (bool_tr rfl hc79)).trans rfl) rfl ?_
        refine WL.pickT (v := .bool true) (bool_tr rfl hc79) rfl ?_
        refine WL.assign (v := .bool true) rfl ?_
        refine WL.nil ?_
        exact Jk30 true _ _ h22_1 h22_3 h22_4 h22_5 h22_6 rfl ((hs.mask [true]).pick [2]) hf }
        {
        refine WL.move (v := .bool x10) h22_4 ?_ (hg := (wanted_of rfl rfl (bool_tr rfl hc79)).trans rfl)
        refine WL.move (v := .bool x10) rfl ?_ (hg := (wanted_of rfl rfl (bool_tr rfl hc79)).trans rfl)
        rcases iteE hf with ⟨hc80, hf⟩ | ⟨hc80, hf⟩
        {
        refine WL.pass ((wanted_of rfl rfl (bool_tr rfl hc80)).trans rfl) rfl ?_
        refine WL.pickT (v := .bool true) (bool_tr rfl hc80) rfl ?_ (hg := (wanted_of rfl rfl (bool_tr rfl hc79)).trans rfl)
        refine WL.move (v := .bool true) rfl ?_ (hg := (wanted_of rfl rfl (bool_tr rfl hc79)).trans rfl)
        refine WL.fieldAddr (m := 2) h22_1 FA26_2 rfl ?_ (hg := (wanted_of rfl rfl rfl).trans rfl)
        refine WL.loadF (z := x1.Weight) F_api_Change_Weight hs 0 rfl 2 rfl rfl TI3 (.inr rfl) rfl rfl (fun v81 hs => ?_) (hg := (wanted_of rfl rfl rfl).trans rfl)
        obtain rfl := hs.int 0 rfl
        refine WL.bin (v := .bool (x1.Weight != 0)) rfl rfl (ib_neq _ _ _) ?_ (hg := (wanted_of rfl rfl rfl).trans rfl)
        refine WL.pickT (v := .bool (x1.Weight != 0)) rfl rfl ?_ (hg := (wanted_of rfl rfl (bool_tr rfl hc79)).trans rfl)
        refine WL.pickF (v := .bool (x1.Weight != 0)) (bool_tr rfl hc79) rfl ?_
        refine WL.assign (v := .bool (x1.Weight != 0)) rfl ?_
        refine WL.nil ?_
        exact Jk30 (x1.Weight != 0) _ _ h22_1 h22_3 h22_4 h22_5 h22_6 rfl ((hs.mask [true]).pick [3]) hf }
        {
        refine WL.move (v := .bool x12) h22_6 ?_ (hg := (wanted_of rfl rfl (bool_tr rfl hc80)).trans rfl)
        refine WL.pickF (v := .bool x12) (bool_tr rfl hc80) rfl ?_ (hg := (wanted_of rfl rfl (bool_tr rfl hc79)).trans rfl)
        refine WL.move (v := .bool x12) rfl ?_ (hg := (wanted_of rfl rfl (bool_tr rfl hc79)).trans rfl)
        rcases iteE hf with ⟨hc82, hf⟩ | ⟨hc82, hf⟩
        {
        refine WL.fieldAddr (m := 2) h22_1 FA26_2 rfl ?_ (hg := (wanted_of rfl rfl (bool_tr rfl hc82)).trans rfl)
        refine WL.loadF (z := x1.Weight) F_api_Change_Weight hs 0 rfl 2 rfl rfl TI3 (.inr rfl) rfl rfl (fun v83 hs => ?_) (hg := (wanted_of rfl rfl (bool_tr rfl hc82)).trans rfl)
        obtain rfl := hs.int 0 rfl
        refine WL.bin (v := .bool (x1.Weight != 0)) rfl rfl (ib_neq _ _ _) ?_ (hg := (wanted_of rfl rfl (bool_tr rfl hc82)).trans rfl)
        refine WL.pickT (v := .bool (x1.Weight != 0)) (bool_tr rfl hc82) rfl ?_ (hg := (wanted_of rfl rfl (bool_tr rfl hc79)).trans rfl)
        refine WL.pickF (v := .bool (x1.Weight != 0)) (bool_tr rfl hc79) rfl ?_
        refine WL.assign (v := .bool (x1.Weight != 0)) rfl ?_
        refine WL.nil ?_
        exact Jk30 (x1.Weight != 0) _ _ h22_1 h22_3 h22_4 h22_5 h22_6 rfl ((hs.mask [true]).pick [3]) hf }
        {
        refine WL.pass ((wanted_of rfl rfl (bool_tr rfl hc82)).trans rfl) rfl ?_
        refine WL.pass ((wanted_of rfl rfl (bool_tr rfl hc82)).trans rfl) rfl ?_
        refine WL.pass ((wanted_of rfl rfl (bool_tr rfl hc82)).trans rfl) rfl ?_
        refine WL.pickF (v := .bool false) (bool_tr rfl hc82) rfl ?_ (hg := (wanted_of rfl rfl (bool_tr rfl hc79)).trans rfl)
        refine WL.pickF (v := .bool false) (bool_tr rfl hc79) rfl ?_
        refine WL.assign (v := .bool false) rfl ?_
        refine WL.nil ?_
        exact Jk30 false _ _ h22_1 h22_3 h22_4 h22_5 h22_6 rfl ((hs.mask [true]).pick [2]) hf } } } } }
        {
        refine WL.move (v := .bool x11) h22_5 ?_ (hg := (wanted_of rfl rfl (bool_tr rfl hc75)).trans rfl)
        refine WL.pickF (v := .bool x11) (bool_tr rfl hc75) rfl ?_
        refine WL.move (v := .bool x11) rfl ?_
        rcases iteE hf with ⟨hc84, hf⟩ | ⟨hc84, hf⟩
        {
        refine WL.fieldAddr (m := 2) h22_1 FA26_2 rfl ?_ (hg := (wanted_of rfl rfl (bool_tr rfl hc84)).trans rfl)
        refine WL.loadF (z := x1.Weight) F_api_Change_Weight hs 0 rfl 0 rfl rfl TI3 (.inr rfl) rfl rfl (fun v85 hs => ?_) (hg := (wanted_of rfl rfl (bool_tr rfl hc84)).trans rfl)
        obtain rfl := hs.int 0 rfl
        refine WL.bin (v := .bool (decide (x1.Weight < 1))) rfl rfl (ib_lss _ _ _) ?_ (hg := (wanted_of rfl rfl (bool_tr rfl hc84)).trans rfl)
        refine WL.move (v := .bool (decide (x1.Weight < 1))) rfl ?_ (hg := (wanted_of rfl rfl (bool_tr rfl hc84)).trans rfl)
        rcases iteE hf with ⟨hc86, hf⟩ | ⟨hc86, hf⟩
        {
        refine WL.pass ((wanted_of rfl rfl (bool_tr rfl hc86)).trans rfl) rfl ?_
        refine WL.pass ((wanted_of rfl rfl (bool_tr rfl hc86)).trans rfl) rfl ?_
        refine WL.pass ((wanted_of rfl rfl (bool_tr rfl hc86)).trans rfl) rfl ?_
        refine WL.pickT (v := .bool true) (bool_tr rfl hc86) rfl ?_ (hg := (wanted_of rfl rfl (bool_tr rfl hc84)).trans rfl)
        refine WL.pickT (v := .bool true) (bool_tr rfl hc84) rfl ?_
        refine WL.move (v := .bool true) rfl ?_
        refine WL.pass ((wanted_of rfl rfl rfl).trans rfl) rfl ?_
        refine WL.pass ((wanted_of rfl rfl rfl).trans rfl) rfl ?_
        refine WL.pass (wanted_undef rfl rfl rfl) rfl ?_
        refine WL.pass ((wanted_of rfl rfl rfl).trans rfl) rfl ?_
        refine WL.pass ((wanted_of rfl rfl rfl).trans rfl) rfl ?_
        refine WL.pass (wanted_undef rfl rfl rfl) rfl ?_
        refine WL.pass (wanted_undef rfl rfl rfl) rfl ?_
        refine WL.pass (wanted_undef rfl rfl rfl) rfl ?_
        refine WL.pass ((wanted_of rfl rfl rfl).trans rfl) rfl ?_
        refine WL.pickT (v := .bool true) rfl rfl ?_
        refine WL.assign (v := .bool true) rfl ?_
        refine WL.nil ?_
        exact Jk30 true _ _ h22_1 h22_3 h22_4 h22_5 h22_6 rfl ((hs.mask [true]).pick [1]) hf }
        {
        refine WL.fieldAddr (m := 2) h22_1 FA26_2 rfl ?_ (hg := (wanted_of rfl rfl (bool_tr rfl hc86)).trans rfl)
        refine WL.loadF (z := x1.Weight) F_api_Change_Weight hs 0 rfl 1 rfl rfl TI3 (.inr rfl) rfl rfl (fun v87 hs => ?_) (hg := (wanted_of rfl rfl (bool_tr rfl hc86)).trans rfl)
        obtain rfl := hs.int 0 rfl
        refine WL.bin (v := .bool (decide (9 < x1.Weight))) rfl rfl (ib_gtr _ _ _) ?_ (hg := (wanted_of rfl rfl (bool_tr rfl hc86)).trans rfl)
        refine WL.pickF (v := .bool (decide (9 < x1.Weight))) (bool_tr rfl hc86) rfl ?_ (hg := (wanted_of rfl rfl (bool_tr rfl hc84)).trans rfl)
        refine WL.pickT (v := .bool (decide (9 < x1.Weight))) (bool_tr rfl hc84) rfl ?_
        refine WL.move (v := .bool (decide (9 < x1.Weight))) rfl ?_
        rcases iteE hf with ⟨hc88, hf⟩ | ⟨hc88, hf⟩
        {
        refine WL.pass ((wanted_of rfl rfl (bool_tr rfl hc88)).trans rfl) rfl ?_
        refine WL.pass ((wanted_of rfl rfl (bool_tr rfl hc88)).trans rfl) rfl ?_
        refine WL.pass (wanted_undef rfl rfl rfl) rfl ?_
        refine WL.pass ((wanted_of rfl rfl (bool_tr rfl hc88)).trans rfl) rfl ?_
        refine WL.pass ((wanted_of rfl rfl (bool_tr rfl hc88)).trans rfl) rfl ?_
        refine WL.pass (wanted_undef rfl rfl rfl) rfl ?_
        refine WL.pass (wanted_undef rfl rfl rfl) rfl ?_
        refine WL.pass (wanted_undef rfl rfl rfl) rfl ?_
        refine WL.pass ((wanted_of rfl rfl (bool_tr rfl hc88)).trans rfl) rfl ?_
        refine WL.pickT (v := .bool true) (bool_tr rfl hc88) rfl ?_
        refine WL.assign (v := .bool true) rfl ?_
        refine WL.nil ?_
        exact Jk30 true _ _ h22_1 h22_3 h22_4 h22_5 h22_6 rfl ((hs.mask [true]).pick [2]) hf }
        {
        refine WL.move (v := .bool x10) h22_4 ?_ (hg := (wanted_of rfl rfl (bool_tr rfl hc88)).trans rfl)
        refine WL.move (v := .bool x10) rfl ?_ (hg := (wanted_of rfl rfl (bool_tr rfl hc88)).trans rfl)
        rcases iteE hf with ⟨hc89, hf⟩ | ⟨hc89, hf⟩
        {
        refine WL.pass ((wanted_of rfl rfl (bool_tr rfl hc89)).trans rfl) rfl ?_
        refine WL.pickT (v := .bool true) (bool_tr rfl hc89) rfl ?_ (hg := (wanted_of rfl rfl (bool_tr rfl hc88)).trans rfl)
        refine WL.move (v := .bool true) rfl ?_ (hg := (wanted_of rfl rfl (bool_tr rfl hc88)).trans rfl)
        refine WL.fieldAddr (m := 2) h22_1 FA26_2 rfl ?_ (hg := (wanted_of rfl rfl rfl).trans rfl)
        refine WL.loadF (z := x1.Weight) F_api_Change_Weight hs 0 rfl 2 rfl rfl TI3 (.inr rfl) rfl rfl (fun v90 hs => ?_) (hg := (wanted_of rfl rfl rfl).trans rfl)
        obtain rfl := hs.int 0 rfl
        refine WL.bin (v := .bool (x1.Weight != 0)) rfl rfl (ib_neq _ _ _) ?_ (hg := (wanted_of rfl rfl rfl).trans rfl)
        refine WL.pickT (v := .bool (x1.Weight != 0)) rfl rfl ?_ (hg := (wanted_of rfl rfl (bool_tr rfl hc88)).trans rfl)
        refine WL.pickF (v := .bool (x1.Weight != 0)) (bool_tr rfl hc88) rfl ?_
        refine WL.assign (v := .bool (x1.Weight != 0)) rfl ?_
        refine WL.nil ?_
        exact Jk30 (x1.Weight != 0) _ _ h22_1 h22_3 h22_4 h22_5 h22_6 rfl ((hs.mask [true]).pick [3]) hf }
        {
        refine WL.move (v := .bool x12) h22_6 ?_ (hg := (wanted_of rfl rfl (bool_tr rfl hc89)).trans rfl)
        refine WL.pickF (v := .bool x12) (bool_tr rfl hc89) rfl ?_ (hg := (wanted_of rfl rfl (bool_tr rfl hc88)).trans rfl)
        refine WL.move (v := .bool x12) rfl ?_ (hg := (wanted_of rfl rfl (bool_tr rfl hc88)).trans rfl)
        rcases iteE hf with ⟨hc91, hf⟩ | ⟨hc91, hf⟩
        {
        refine WL.fieldAddr (m := 2) h22_1 FA26_2 rfl ?_ (hg := (wanted_of rfl rfl (bool_tr rfl hc91)).trans rfl)
        refine WL.loadF (z := x1.Weight) F_api_Change_Weight hs 0 rfl 2 rfl rfl TI3 (.inr rfl) rfl rfl (fun v92 hs => ?_) (hg := (wanted_of rfl rfl (bool_tr rfl hc91)).trans rfl)
        obtain rfl := hs.int 0 rfl
        refine WL.bin (v := .bool (x1.Weight != 0)) rfl rfl (ib_neq _ _ _) ?_ (hg := (wanted_of rfl rfl (bool_tr rfl hc91)).trans rfl)
        refine WL.pickT (v := .bool (x1.Weight != 0)) (bool_tr rfl hc91) rfl ?_ (hg := (wanted_of rfl rfl (bool_tr rfl hc88)).trans rfl)
        refine WL.pickF (v := .bool (x1.Weight != 0)) (bool_tr rfl hc88) rfl ?_
        refine WL.assign (v := .bool (x1.Weight != 0)) rfl ?_
        refine WL.nil ?_
        exact Jk30 (x1.Weight != 0) _ _ h22_1 h22_3 h22_4 h22_5 h22_6 rfl ((hs.mask [true]).pick [3]) hf }
        {
        refine WL.pass ((wanted_of rfl rfl (bool_tr rfl hc91)).trans rfl) rfl ?_
        refine WL.pass ((wanted_of rfl rfl (bool_tr rfl hc91)).trans rfl) rfl ?_
        refine WL.pass ((wanted_of rfl rfl (bool_tr rfl hc91)).trans rfl) rfl ?_
        refine WL.pickF (v := .bool false) (bool_tr rfl hc91) rfl ?_ (hg := (wanted_of rfl rfl (bool_tr rfl hc88)).trans rfl)
        refine WL.pickF (v := .bool false) (bool_tr rfl hc88) rfl ?_
        refine WL.assign (v := .bool false) rfl ?_
        refine WL.nil ?_
        exact Jk30 false _ _ h22_1 h22_3 h22_4 h22_5 h22_6 rfl ((hs.mask [true]).pick [2]) hf } } } } }
        {
        refine WL.pass ((wanted_of rfl rfl (bool_tr rfl hc84)).trans rfl) rfl ?_
        refine WL.pass ((wanted_of rfl rfl (bool_tr rfl hc84)).trans rfl) rfl ?_
        refine WL.pass ((wanted_of rfl rfl (bool_tr rfl hc84)).trans rfl) rfl ?_
        refine WL.pass ((wanted_of rfl rfl (bool_tr rfl hc84)).trans rfl) rfl ?_
        refine WL.pass (wanted_undef rfl rfl rfl) rfl ?_
        refine WL.pass (wanted_undef rfl rfl rfl) rfl ?_
        refine WL.pass (wanted_undef rfl rfl rfl) rfl ?_
        refine WL.pass ((wanted_of rfl rfl (bool_tr rfl hc84)).trans rfl) rfl ?_
        refine WL.pickF (v := .bool false) (bool_tr rfl hc84) rfl ?_
        refine WL.move (v := .bool false) rfl ?_
        refine WL.move (v := .bool x10) h22_4 ?_ (hg := (wanted_of rfl rfl rfl).trans rfl)
        refine WL.move (v := .bool x10) rfl ?_ (hg := (wanted_of rfl rfl rfl).trans rfl)
        rcases iteE hf with ⟨hc93, hf⟩ | ⟨hc93, hf⟩
        {
        refine WL.pass ((wanted_of rfl rfl (bool_tr rfl hc93)).trans rfl) rfl ?_
        refine WL.pickT (v := .bool true) (bool_tr rfl hc93) rfl ?_ (hg := (wanted_of rfl rfl rfl).trans rfl)
        refine WL.move (v := .bool true) rfl ?_ (hg := (wanted_of rfl rfl rfl).trans rfl)
        refine WL.fieldAddr (m := 2) h22_1 FA26_2 rfl ?_ (hg := (wanted_of rfl rfl rfl).trans rfl)
        refine WL.loadF (z := x1.Weight) F_api_Change_Weight hs 0 rfl 0 rfl rfl TI3 (.inr rfl) rfl rfl (fun v94 hs => ?_) (hg := (wanted_of rfl rfl rfl).trans rfl)
        obtain rfl := hs.int 0 rfl
        refine WL.bin (v := .bool (x1.Weight != 0)) rfl rfl (ib_neq _ _ _) ?_ (hg := (wanted_of rfl rfl rfl).trans rfl)
        refine WL.pickT (v := .bool (x1.Weight != 0)) rfl rfl ?_ (hg := (wanted_of rfl rfl rfl).trans rfl)
        refine WL.pickF (v := .bool (x1.Weight != 0)) rfl rfl ?_
        refine WL.assign (v := .bool (x1.Weight != 0)) rfl ?_
        refine WL.nil ?_
        exact Jk30 (x1.Weight != 0) _ _ h22_1 h22_3 h22_4 h22_5 h22_6 rfl ((hs.mask [true]).pick [1]) hf }
        {
        refine WL.move (v := .bool x12) h22_6 ?_ (hg := (wanted_of rfl rfl (bool_tr rfl hc93)).trans rfl)
        refine WL.pickF (v := .bool x12) (bool_tr rfl hc93) rfl ?_ (hg := (wanted_of rfl rfl rfl).trans rfl)
        refine WL.move (v := .bool x12) rfl ?_ (hg := (wanted_of rfl rfl rfl).trans rfl)
        rcases iteE hf with ⟨hc95, hf⟩ | ⟨hc95, hf⟩
        {
        refine WL.fieldAddr (m := 2) h22_1 FA26_2 rfl ?_ (hg := (wanted_of rfl rfl (bool_tr rfl hc95)).trans rfl)
        refine WL.loadF (z := x1.Weight) F_api_Change_Weight hs 0 rfl 0 rfl rfl TI3 (.inr rfl) rfl rfl (fun v96 hs => ?_) (hg := (wanted_of rfl rfl (bool_tr rfl hc95)).trans rfl)
        obtain rfl := hs.int 0 rfl
        refine WL.bin (v := .bool (x1.Weight != 0)) rfl rfl (ib_neq _ _ _) ?_ (hg := (wanted_of rfl rfl (bool_tr rfl hc95)).trans rfl)
        refine WL.pickT (v := .bool (x1.Weight != 0)) (bool_tr rfl hc95) rfl ?_ (hg := (wanted_of rfl rfl rfl).trans rfl)
        refine WL.pickF (v := .bool (x1.Weight != 0)) rfl rfl ?_
        refine WL.assign (v := .bool (x1.Weight != 0)) rfl ?_
        refine WL.nil ?_
        exact Jk30 (x1.Weight != 0) _ _ h22_1 h22_3 h22_4 h22_5 h22_6 rfl ((hs.mask [true]).pick [1]) hf }
        {
        refine WL.pass ((wanted_of rfl rfl (bool_tr rfl hc95)).trans rfl) rfl ?_
        refine WL.pass ((wanted_of rfl rfl (bool_tr rfl hc95)).trans rfl) rfl ?_
        refine WL.pass ((wanted_of rfl rfl (bool_tr rfl hc95)).trans rfl) rfl ?_
        refine WL.pickF (v := .bool false) (bool_tr rfl hc95) rfl ?_ (hg := (wanted_of rfl rfl rfl).trans rfl)
        refine WL.pickF (v := .bool false) rfl rfl ?_
        refine WL.assign (v := .bool false) rfl ?_
        refine WL.nil ?_
        exact Jk30 false _ _ h22_1 h22_3 h22_4 h22_5 h22_6 rfl ((hs.mask [true]).pick [0]) hf } } } } }
      refine W.region ?_
      refine WL.move (v := .bool x12) h16_6 ?_
      refine WL.not rfl ?_
      refine WL.move (v := .bool (!x12)) rfl ?_
      rcases iteE hf with ⟨hc97, hf⟩ | ⟨hc97, hf⟩
      {
      refine WL.fieldAddr (m := 1) h16_1 FA26_1 rfl ?_ (hg := (wanted_of rfl rfl (bool_tr rfl hc97)).trans rfl)
      refine WL.loadF (z := x1.Server) F_api_Change_Server hs 0 rfl 0 rfl rfl TI3 (.inr rfl) rfl rfl (fun v98 hs => ?_) (hg := (wanted_of rfl rfl (bool_tr rfl hc97)).trans rfl)
      obtain rfl := hs.int 0 rfl
      obtain ⟨x99, hxx99, hf⟩ := bindE hf
      refine WL.call (vs := [.int .i64 x1.Server]) hs FN34 ⟨rfl, trivial⟩ (fun ok hA => esref06_Server.calls (x1 := x1.Server) hxx99) ?_ (hg := (wanted_of rfl rfl (bool_tr rfl hc97)).trans rfl)
      rintro _ w hs
      refine WL.not rfl ?_ (hg := (wanted_of rfl rfl (bool_tr rfl hc97)).trans rfl)
      refine WL.pickT (v := .bool (!x99)) (bool_tr rfl hc97) rfl ?_
      refine WL.move (v := .bool (!x99)) rfl ?_
      rcases iteE hf with ⟨hc100, hf⟩ | ⟨hc100, hf⟩
      {
      refine WL.pass ((wanted_of rfl rfl (bool_tr rfl hc100)).trans rfl) rfl ?_
      refine WL.pass ((wanted_of rfl rfl (bool_tr rfl hc100)).trans rfl) rfl ?_
      refine WL.pass (wanted_undef rfl rfl rfl) rfl ?_
      refine WL.pass (wanted_undef rfl rfl rfl) rfl ?_
      refine WL.pass (wanted_undef rfl rfl rfl) rfl ?_
      refine WL.pass ((wanted_of rfl rfl (bool_tr rfl hc100)).trans rfl) rfl ?_
      refine WL.pickT (v := .bool true) (bool_tr rfl hc100) rfl ?_
      refine WL.assign (v := .bool true) rfl ?_
      refine WL.nil ?_
      exact Jk24 true _ _ h16_1 h16_3 h16_4 h16_5 h16_6 rfl ((hs.mask [true]).pick [1]) hf }
      {
      refine WL.move (v := .bool x12) h16_6 ?_ (hg := (wanted_of rfl rfl (bool_tr rfl hc100)).trans rfl)
      refine WL.move (v := .bool x12) rfl ?_ (hg := (wanted_of rfl rfl (bool_tr rfl hc100)).trans rfl)
      rcases iteE hf with ⟨hc101, hf⟩ | ⟨hc101, hf⟩
      {
      refine WL.fieldAddr (m := 1) h16_1 FA26_1 rfl ?_ (hg := (wanted_of rfl rfl (bool_tr rfl hc101)).trans rfl)
      refine WL.loadF (z := x1.Server) F_api_Change_Server hs 0 rfl 1 rfl rfl TI3 (.inr rfl) rfl rfl (fun v102 hs => ?_) (hg := (wanted_of rfl rfl (bool_tr rfl hc101)).trans rfl)
      obtain rfl := hs.int 0 rfl
      refine WL.bin (v := .bool (x1.Server != 0)) rfl rfl (ib_neq _ _ _) ?_ (hg := (wanted_of rfl rfl (bool_tr rfl hc101)).trans rfl)
      refine WL.pickT (v := .bool (x1.Server != 0)) (bool_tr rfl hc101) rfl ?_ (hg := (wanted_of rfl rfl (bool_tr rfl hc100)).trans rfl)
      refine WL.pickF (v := .bool (x1.Server != 0)) (bool_tr rfl hc100) rfl ?_
      refine WL.assign (v := .bool (x1.Server != 0)) rfl ?_
      refine WL.nil ?_
      exact Jk24 (x1.Server != 0) _ _ h16_1 h16_3 h16_4 h16_5 h16_6 rfl ((hs.mask [true]).pick [2]) hf }
      {
      refine WL.pass ((wanted_of rfl rfl (bool_tr rfl hc101)).trans rfl) rfl ?_
      refine WL.pass ((wanted_of rfl rfl (bool_tr rfl hc101)).trans rfl) rfl ?_
      refine WL.pass ((wanted_of rfl rfl (bool_tr rfl hc101)).trans rfl) rfl ?_
      refine WL.pickF (v := .bool false) (bool_tr rfl hc101) rfl ?_ (hg := (wanted_of rfl rfl (bool_tr rfl hc100)).trans rfl)
      refine WL.pickF (v := .bool false) (bool_tr rfl hc100) rfl ?_
      refine WL.assign (v := .bool false) rfl ?_
      refine WL.nil ?_
      exact Jk24 false _ _ h16_1 h16_3 h16_4 h16_5 h16_6 rfl ((hs.mask [true]).pick [1]) hf } } }
      {
      refine WL.pass ((wanted_of rfl rfl (bool_tr rfl hc97)).trans rfl) rfl ?_
      refine WL.pass ((wanted_of rfl rfl (bool_tr rfl hc97)).trans rfl) rfl ?_
      refine WL.pass ((wanted_of rfl rfl (bool_tr rfl hc97)).trans rfl) rfl ?_
      refine WL.pass ((wanted_of rfl rfl (bool_tr rfl hc97)).trans rfl) rfl ?_
      refine WL.pickF (v := .bool false) (bool_tr rfl hc97) rfl ?_
      refine WL.move (v := .bool false) rfl ?_
      refine WL.move (v := .bool x12) h16_6 ?_ (hg := (wanted_of rfl rfl rfl).trans rfl)
      refine WL.move (v := .bool x12) rfl ?_ (hg := (wanted_of rfl rfl rfl).trans rfl)
      rcases iteE hf with ⟨hc103, hf⟩ | ⟨hc103, hf⟩
      {
      refine WL.fieldAddr (m := 1) h16_1 FA26_1 rfl ?_ (hg := (wanted_of rfl rfl (bool_tr rfl hc103)).trans rfl)
      refine WL.loadF (z := x1.Server) F_api_Change_Server hs 0 rfl 0 rfl rfl TI3 (.inr rfl) rfl rfl (fun v104 hs => ?_) (hg := (wanted_of rfl rfl (bool_tr rfl hc103)).trans rfl)
      obtain rfl := hs.int 0 rfl
      refine WL.bin (v := .bool (x1.Server != 0)) rfl rfl (ib_neq _ _ _) ?_ (hg := (wanted_of rfl rfl (bool_tr rfl hc103)).trans rfl)
      refine WL.pickT (v := .bool (x1.Server != 0)) (bool_tr rfl hc103) rfl ?_ (hg := (wanted_of rfl rfl rfl).trans rfl)
      refine WL.pickF (v := .bool (x1.Server != 0)) rfl rfl ?_
      refine WL.assign (v := .bool (x1.Server != 0)) rfl ?_
      refine WL.nil ?_
      exact Jk24 (x1.Server != 0) _ _ h16_1 h16_3 h16_4 h16_5 h16_6 rfl ((hs.mask [true]).pick [1]) hf }
      {
      refine WL.pass ((wanted_of rfl rfl (bool_tr rfl hc103)).trans rfl) rfl ?_
      refine WL.pass ((wanted_of rfl rfl (bool_tr rfl hc103)).trans rfl) rfl ?_
      refine WL.pass ((wanted_of rfl rfl (bool_tr rfl hc103)).trans rfl) rfl ?_
      refine WL.pickF (v := .bool false) (bool_tr rfl hc103) rfl ?_ (hg := (wanted_of rfl rfl rfl).trans rfl)
      refine WL.pickF (v := .bool false) rfl rfl ?_
      refine WL.assign (v := .bool false) rfl ?_
      refine WL.nil ?_
      exact Jk24 false _ _ h16_1 h16_3 h16_4 h16_5 h16_6 rfl ((hs.mask [true]).pick [0]) hf } } }
    refine W.region ?_
    refine WL.move (v := .bool x9) h8_3 ?_
    refine WL.not rfl ?_
    refine WL.move (v := .bool (!x9)) rfl ?_
    rcases iteE hf with ⟨hc105, hf⟩ | ⟨hc105, hf⟩
    {
    refine WL.move (v := .bool x10) h8_4 ?_ (hg := (wanted_of rfl rfl (bool_tr rfl hc105)).trans rfl)
    refine WL.not rfl ?_ (hg := (wanted_of rfl rfl (bool_tr rfl hc105)).trans rfl)
    refine WL.pickT (v := .bool (!x10)) (bool_tr rfl hc105) rfl ?_
    refine WL.move (v := .bool (!x10)) rfl ?_
    rcases iteE hf with ⟨hc106, hf⟩ | ⟨hc106, hf⟩
    {
    refine WL.move (v := .bool x11) h8_5 ?_ (hg := (wanted_of rfl rfl (bool_tr rfl hc106)).trans rfl)
    refine WL.not rfl ?_ (hg := (wanted_of rfl rfl (bool_tr rfl hc106)).trans rfl)
    refine WL.pickT (v := .bool (!x11)) (bool_tr rfl hc106) rfl ?_
    refine WL.move (v := .bool (!x11)) rfl ?_
    rcases iteE hf with ⟨hc107, hf⟩ | ⟨hc107, hf⟩
    {
    refine WL.move (v := .bool x12) h8_6 ?_ (hg := (wanted_of rfl rfl (bool_tr rfl hc107)).trans rfl)
    refine WL.not rfl ?_ (hg := (wanted_of rfl rfl (bool_tr rfl hc107)).trans rfl)
    refine WL.pickT (v := .bool (!x12)) (bool_tr rfl hc107) rfl ?_
    refine WL.assign (v := .bool (!x12)) rfl ?_
    refine WL.nil ?_
    exact Jk18 (!x12) _ _ h8_1 h8_3 h8_4 h8_5 h8_6 rfl ((hs.mask [true]).pick [0]) hf }
    {
    refine WL.pass ((wanted_of rfl rfl (bool_tr rfl hc107)).trans rfl) rfl ?_
    refine WL.pass ((wanted_of rfl rfl (bool_tr rfl hc107)).trans rfl) rfl ?_
    refine WL.pickF (v := .bool false) (bool_tr rfl hc107) rfl ?_
    refine WL.assign (v := .bool false) rfl ?_
    refine WL.nil ?_
    exact Jk18 false _ _ h8_1 h8_3 h8_4 h8_5 h8_6 rfl ((hs.mask [true]).pick [0]) hf } }
    {
    refine WL.pass ((wanted_of rfl rfl (bool_tr rfl hc106)).trans rfl) rfl ?_
    refine WL.pass ((wanted_of rfl rfl (bool_tr rfl hc106)).trans rfl) rfl ?_
    refine WL.pickF (v := .bool false) (bool_tr rfl hc106) rfl ?_
    refine WL.move (v := .bool false) rfl ?_
    refine WL.pass ((wanted_of rfl rfl rfl).trans rfl) rfl ?_
    refine WL.pass ((wanted_of rfl rfl rfl).trans rfl) rfl ?_
    refine WL.pickF (v := .bool false) rfl rfl ?_
    refine WL.assign (v := .bool false) rfl ?_
    refine WL.nil ?_
    exact Jk18 false _ _ h8_1 h8_3 h8_4 h8_5 h8_6 rfl ((hs.mask [true]).pick [0]) hf } }
    {
    refine WL.pass ((wanted_of rfl rfl (bool_tr rfl hc105)).trans rfl) rfl ?_
    refine WL.pass ((wanted_of rfl rfl (bool_tr rfl hc105)).trans rfl) rfl ?_
    refine WL.pickF (v := .bool false) (bool_tr rfl hc105) rfl ?_
    refine WL.move (v := .bool false) rfl ?_
    refine WL.pass ((wanted_of rfl rfl rfl).trans rfl) rfl ?_
    refine WL.pass ((wanted_of rfl rfl rfl).trans rfl) rfl ?_
    refine WL.pickF (v := .bool false) rfl rfl ?_
    refine WL.move (v := .bool false) rfl ?_
    refine WL.pass ((wanted_of rfl rfl rfl).trans rfl) rfl ?_
    refine WL.pass ((wanted_of rfl rfl rfl).trans rfl) rfl ?_
    refine WL.pickF (v := .bool false) rfl rfl ?_
    refine WL.assign (v := .bool false) rfl ?_
    refine WL.nil ?_
    exact Jk18 false _ _ h8_1 h8_3 h8_4 h8_5 h8_6 rfl ((hs.mask [true]).pick [0]) hf }
  refine W.any (by kernel_rfl) 16 0 [true, true, true, true, true, true, true, true, true, true, true, true, true, true, true, true] rfl rfl (poAt [pv (.pointer (some ⟨g6, 0, none⟩)), pv (.int .i64 x1.Kind), pv (.bool (x1.Kind == 1)), pv (.pointer (some ⟨g6, 0, none⟩)), pv (.int .i64 x1.Kind), pv (.bool (x1.Kind == 2)), pv (.pointer (some ⟨g6, 0, none⟩)), pv (.int .i64 x1.Kind), pv (.bool (x1.Kind == 3)), pv (.pointer (some ⟨g6, 0, none⟩)), pv (.int .i64 x1.Kind), pv (.bool (x1.Kind == 4)), pv (.bool (x1.Kind == 1)), pv (.bool (x1.Kind == 2)), pv (.bool (x1.Kind == 3)), pv (.bool (x1.Kind == 4))]) (Λ := [blk g6 26 cs3]) hs (by kernel_rfl) (by kernel_rfl) (by kernel_rfl) ⟨⟨⟨⟨⟨⟨⟨⟨⟨⟨⟨⟨⟨⟨⟨⟨trivial, ?_⟩, ?_⟩, ?_⟩, ?_⟩, ?_⟩, ?_⟩, ?_⟩, ?_⟩, ?_⟩, ?_⟩, ?_⟩, ?_⟩, ?_⟩, ?_⟩, ?_⟩, ?_⟩ ?_
  {
  intro ρ w Γx Λx hs hu hp
  refine WL.fieldAddr (m := 0) (hu 1 rfl) FA26_0 rfl ?_
  exact WL.nil ⟨rfl, _, rfl, rfl, hs.cutG 0 0⟩ }
  {
  intro ρ w Γx Λx hs hu hp
  have e112 : ρ 7 = .pointer (some ⟨g6, 0, none⟩) := (hp 0 rfl).1
  refine WL.loadF (z := x1.Kind) F_api_Change_Kind hs (Λx.length + 0) (getApp rfl) (Γx.length + 0) (getApp rfl) rfl TI3 (.inr rfl) e112 rfl (fun v108 hs => ?_)
  obtain rfl := hs.int 0 rfl
  exact WL.nil ⟨rfl, _, rfl, rfl, hs.cutG 0 1⟩ }
  {
  intro ρ w Γx Λx hs hu hp
  have e113 : ρ 8 = .int .i64 x1.Kind := (hp 1 rfl).1
  refine WL.bin (v := .bool (x1.Kind == 1)) e113 rfl (ib_eql _ _ _) ?_
  exact WL.nil ⟨rfl, _, rfl, rfl, hs.cutG 0 0⟩ }
  {
  intro ρ w Γx Λx hs hu hp
  refine WL.fieldAddr (m := 0) (hu 1 rfl) FA26_0 rfl ?_
  exact WL.nil ⟨rfl, _, rfl, rfl, hs.cutG 0 0⟩ }
  {
  intro ρ w Γx Λx hs hu hp
  have e114 : ρ 10 = .pointer (some ⟨g6, 0, none⟩) := (hp 3 rfl).1
  refine WL.loadF (z := x1.Kind) F_api_Change_Kind hs (Λx.length + 0) (getApp rfl) (Γx.length + 0) (getApp rfl) rfl TI3 (.inr rfl) e114 rfl (fun v109 hs => ?_)
  obtain rfl := hs.int 0 rfl
  exact WL.nil ⟨rfl, _, rfl, rfl, hs.cutG 0 1⟩ }
  {
  intro ρ w Γx Λx hs hu hp
  have e115 : ρ 11 = .int .i64 x1.Kind := (hp 4 rfl).1
  refine WL.bin (v := .bool (x1.Kind == 2)) e115 rfl (ib_eql _ _ _) ?_
  exact WL.nil ⟨rfl, _, rfl, rfl, hs.cutG 0 0⟩ }
  {
  intro ρ w Γx Λx hs hu hp
  refine WL.fieldAddr (m := 0) (hu 1 rfl) FA26_0 rfl ?_
  exact WL.nil ⟨rfl, _, rfl, rfl, hs.cutG 0 0⟩ }
  {
  intro ρ w Γx Λx hs hu hp
  have e116 : ρ 13 = .pointer (some ⟨g6, 0, none⟩) := (hp 6 rfl).1
  refine WL.loadF (z := x1.Kind) F_api_Change_Kind hs (Λx.length + 0) (getApp rfl) (Γx.length + 0) (getApp rfl) rfl TI3 (.inr rfl) e116 rfl (fun v110 hs => ?_)
  obtain rfl := hs.int 0 rfl
  exact WL.nil ⟨rfl, _, rfl, rfl, hs.cutG 0 1⟩ }
  {
  intro ρ w Γx Λx hs hu hp
  have e117 : ρ 14 = .int .i64 x1.Kind := (hp 7 rfl).1
  refine WL.bin (v := .bool (x1.Kind == 3)) e117 rfl (ib_eql _ _ _) ?_
  exact WL.nil ⟨rfl, _, rfl, rfl, hs.cutG 0 0⟩ }
  {
  intro ρ w Γx Λx hs hu hp
  refine WL.fieldAddr (m := 0) (hu 1 rfl) FA26_0 rfl ?_
  exact WL.nil ⟨rfl, _, rfl, rfl, hs.cutG 0 0⟩ }
  {
  intro ρ w Γx Λx hs hu hp
  have e118 : ρ 16 = .pointer (some ⟨g6, 0, none⟩) := (hp 9 rfl).1
  refine WL.loadF (z := x1.Kind) F_api_Change_Kind hs (Λx.length + 0) (getApp rfl) (Γx.length + 0) (getApp rfl) rfl TI3 (.inr rfl) e118 rfl (fun v111 hs => ?_)
  obtain rfl := hs.int 0 rfl
  exact WL.nil ⟨rfl, _, rfl, rfl, hs.cutG 0 1⟩ }
  {
  intro ρ w Γx Λx hs hu hp
  have e119 : ρ 17 = .int .i64 x1.Kind := (hp 10 rfl).1
  refine WL.bin (v := .bool (x1.Kind == 4)) e119 rfl (ib_eql _ _ _) ?_
  exact WL.nil ⟨rfl, _, rfl, rfl, hs.cutG 0 0⟩ }
  {
  intro ρ w Γx Λx hs hu hp
  have e120 : ρ 9 = .bool (x1.Kind == 1) := (hp 2 rfl).1
  refine WL.assign (v := .bool (x1.Kind == 1)) e120 ?_
  exact WL.nil ⟨rfl, _, rfl, rfl, hs.cutG 0 0⟩ }
  {
  intro ρ w Γx Λx hs hu hp
  have e121 : ρ 12 = .bool (x1.Kind == 2) := (hp 5 rfl).1
  refine WL.assign (v := .bool (x1.Kind == 2)) e121 ?_
  exact WL.nil ⟨rfl, _, rfl, rfl, hs.cutG 0 0⟩ }
  {
  intro ρ w Γx Λx hs hu hp
  have e122 : ρ 15 = .bool (x1.Kind == 3) := (hp 8 rfl).1
  refine WL.assign (v := .bool (x1.Kind == 3)) e122 ?_
  exact WL.nil ⟨rfl, _, rfl, rfl, hs.cutG 0 0⟩ }
  {
  intro ρ w Γx Λx hs hu hp
  have e123 : ρ 18 = .bool (x1.Kind == 4) := (hp 11 rfl).1
  refine WL.assign (v := .bool (x1.Kind == 4)) e123 ?_
  exact WL.nil ⟨rfl, _, rfl, rfl, hs.cutG 0 0⟩ }
  {
  intro ρ w hs hu124 hp
  obtain ⟨⟨⟨⟨⟨⟨⟨⟨⟨⟨⟨⟨⟨⟨⟨⟨_, hp0_⟩, hp1_⟩, hp2_⟩, hp3_⟩, hp4_⟩, hp5_⟩, hp6_⟩, hp7_⟩, hp8_⟩, hp9_⟩, hp10_⟩, hp11_⟩, hp12_⟩, hp13_⟩, hp14_⟩, hp15_⟩ := hp
  have hs : St ok (bz w0) w [vl t_api_Change x1 (.agg cs3.toArray)] [blk g6 26 cs3] := hs
  have e125 : ρ 6 = .bool (x1.Kind == 4) := hp15_
  have e126 : ρ 5 = .bool (x1.Kind == 3) := hp14_
  have e127 : ρ 4 = .bool (x1.Kind == 2) := hp13_
  have e128 : ρ 3 = .bool (x1.Kind == 1) := hp12_
  have e129 : ρ 18 = .bool (x1.Kind == 4) := hp11_
  have e130 : ρ 17 = .int .i64 x1.Kind := hp10_
  have e131 : ρ 16 = .pointer (some ⟨g6, 0, none⟩) := hp9_
  have e132 : ρ 15 = .bool (x1.Kind == 3) := hp8_
  have e133 : ρ 14 = .int .i64 x1.Kind := hp7_
  have e134 : ρ 13 = .pointer (some ⟨g6, 0, none⟩) := hp6_
  have e135 : ρ 12 = .bool (x1.Kind == 2) := hp5_
  have e136 : ρ 11 = .int .i64 x1.Kind := hp4_
  have e137 : ρ 10 = .pointer (some ⟨g6, 0, none⟩) := hp3_
  have e138 : ρ 9 = .bool (x1.Kind == 1) := hp2_
  have e139 : ρ 8 = .int .i64 x1.Kind := hp1_
  have e140 : ρ 7 = .pointer (some ⟨g6, 0, none⟩) := hp0_
  refine WA.done (by kernel_rfl) ?_
  exact Jk13 (x1.Kind == 1) (x1.Kind == 2) (x1.Kind == 3) (x1.Kind == 4) _ _ (hu124 1 rfl) e128 e127 e126 e125 ((hs.mask [true]).pick [0]) hf }
end Go.Proofs.YthfoljpjhegkmaaDoor
