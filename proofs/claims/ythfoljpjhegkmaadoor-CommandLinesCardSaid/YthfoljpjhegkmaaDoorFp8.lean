import Derived.Test.YthfoljpjhegkmaaDoorFh
import Derived.Test.YthfoljpjhegkmaaDoorFp7
set_option linter.unusedVariables false
set_option linter.unusedSimpArgs false
namespace Go.Proofs.YthfoljpjhegkmaaDoor
open Go Go.RowKit Go.Proofs.YthfoljpjhegkmaaDoorL
set_option maxRecDepth 100000
set_option maxHeartbeats 4000000
/-! elasticstore/elasticstoreref06.ValidateRule: function 35 -/
theorem esref06_ValidateRule.calls {ok : Nat → Prop} {w0 : World} {x1 : api_Rule} {v2 : Value} {r : Int} (hf : esref06_ValidateRule x1 = some r) (i0 : (vl t_api_Rule x1 v2).holds ok w0) :
    Calls Tryd.prog 35 #[v2] w0 fun e w' => ∃ v, e = .returned v ∧ ∃ y : Unit, v = .int .i64 r ∧ St ok (bz w0) w' [] [] := by
  unfold esref06_ValidateRule at hf
  refine calls_of_W (fn := Tryd.f35) (N := 56) Tryd.func35 rfl Tryd.ntmps35 rfl ?_
  have hs : St ok (bz w0) w0 [vl t_api_Rule x1 v2] [] := St.init (All.cons i0 All.nil)
  clear i0
  obtain ⟨cs3, hl4, rfl⟩ := hs.aggv (n := 3) 0 rfl rfl rfl
  refine W.seqK fun K5 hK5 => ?_
  refine W.region ?_
  refine WL.box (vs := cs3) hs rfl rfl (fun g6 w hs => ?_)
  refine WL.assign (v := .int .i64 0) rfl ?_
  refine WL.nil ?_
  refine hK5 _ _ ?_
  refine W.seqK fun K7 hK7 => ?_
  refine W.block ?_
  refine W.seqK fun K8 hK8 => ?_
  have Jk11 : ∀ (x10 : Bool) (ρ : Env) (w : World), ρ 1 = .pointer (some ⟨g6, 0, none⟩) → ρ 3 = .bool x10 → St ok (bz w0) w [vl t_api_Rule x1 (.agg cs3.toArray)] [blk g6 24 cs3] → esref06_ValidateRule.j3 x1 x10 = some r → K8 ρ w := by
    intro x10 ρ w h9_1 h9_3 hs hf
    refine hK8 _ _ ?_
    unfold esref06_ValidateRule.j3 at hf
    rcases iteE hf with ⟨hc12, hf⟩ | ⟨hc12, hf⟩
    · refine W.cond_true (bool_tr h9_3 hc12) ?_
      refine W.seqK fun K13 hK13 => ?_
      refine W.region ?_
      refine WL.assign (v := .int .i64 10) rfl ?_
      refine WL.nil ?_
      refine hK13 _ _ ?_
      refine W.ret ?_
      have hr := Option.some.inj hf; subst hr
      exact ⟨_, resOk_one rfl rfl, (), rfl, (hs.mask []).pick []⟩
    · refine W.cond_false (bool_tr h9_3 hc12) ?_
      refine W.seqK fun K14 hK14 => ?_
      have Jk17 : ∀ (x16 : Bool) (ρ : Env) (w : World), ρ 1 = .pointer (some ⟨g6, 0, none⟩) → ρ 12 = .bool x16 → St ok (bz w0) w [vl t_api_Rule x1 (.agg cs3.toArray)] [blk g6 24 cs3] → esref06_ValidateRule.j2 x1 x16 = some r → K14 ρ w := by
        intro x16 ρ w h15_1 h15_12 hs hf
        refine hK14 _ _ ?_
        unfold esref06_ValidateRule.j2 at hf
        rcases iteE hf with ⟨hc18, hf⟩ | ⟨hc18, hf⟩
        · refine W.cond_true (bool_tr h15_12 hc18) ?_
          refine W.seqK fun K19 hK19 => ?_
          refine W.region ?_
          refine WL.assign (v := .int .i64 9) rfl ?_
          refine WL.nil ?_
          refine hK19 _ _ ?_
          refine W.ret ?_
          have hr := Option.some.inj hf; subst hr
          exact ⟨_, resOk_one rfl rfl, (), rfl, (hs.mask []).pick []⟩
        · refine W.cond_false (bool_tr h15_12 hc18) ?_
          refine W.seqK fun K20 hK20 => ?_
          have Jk23 : ∀ (x22 : Bool) (ρ : Env) (w : World), ρ 32 = .bool x22 → St ok (bz w0) w [] [] → esref06_ValidateRule.j1 x22 = some r → K20 ρ w := by
            intro x22 ρ w h21_32 hs hf
            refine hK20 _ _ ?_
            unfold esref06_ValidateRule.j1 at hf
            rcases iteE hf with ⟨hc24, hf⟩ | ⟨hc24, hf⟩
            · refine W.cond_true (bool_tr h21_32 hc24) ?_
              refine W.seqK fun K25 hK25 => ?_
              refine W.region ?_
              refine WL.assign (v := .int .i64 9) rfl ?_
              refine WL.nil ?_
              refine hK25 _ _ ?_
              refine W.ret ?_
              have hr := Option.some.inj hf; subst hr
              exact ⟨_, resOk_one rfl rfl, (), rfl, (hs.mask []).pick []⟩
            · refine W.cond_false (bool_tr h21_32 hc24) ?_
              refine W.skip ?_
              refine hK7 _ _ ?_
              refine W.seqK fun K26 hK26 => ?_
              refine W.region ?_
              refine WL.assign (v := .int .i64 0) rfl ?_
              refine WL.nil ?_
              refine hK26 _ _ ?_
              refine W.ret ?_
              have hr := Option.some.inj hf; subst hr
              exact ⟨_, resOk_one rfl rfl, (), rfl, (hs.mask []).pick []⟩
          refine W.region ?_
          refine WL.fieldAddr (m := 0) h15_1 FA24_0 rfl ?_
          refine WL.loadF (z := x1.Kind) F_api_Rule_Kind hs 0 rfl 0 rfl rfl TI3 (.inr rfl) rfl rfl (fun v27 hs => ?_)
          obtain rfl := hs.int 0 rfl
          refine WL.bin (v := .bool (x1.Kind == 4)) rfl rfl (ib_eql _ _ _) ?_
          refine WL.move (v := .bool (x1.Kind == 4)) rfl ?_
          rcases iteE hf with ⟨hc28, hf⟩ | ⟨hc28, hf⟩
          · refine WL.fieldAddr (m := 2) h15_1 FA24_2 rfl ?_ (hg := (wanted_of rfl rfl (bool_tr rfl hc28)).trans rfl)
            refine WL.loadF (z := x1.Faulty) F_api_Rule_Faulty hs 0 rfl 1 rfl rfl TI3 (.inr rfl) rfl rfl (fun v29 hs => ?_) (hg := (wanted_of rfl rfl (bool_tr rfl hc28)).trans rfl)
            obtain rfl := hs.int 0 rfl
            refine WL.bin (v := .bool (decide (x1.Faulty < 0))) rfl rfl (ib_lss _ _ _) ?_ (hg := (wanted_of rfl rfl (bool_tr rfl hc28)).trans rfl)
            refine WL.move (v := .bool (decide (x1.Faulty < 0))) rfl ?_ (hg := (wanted_of rfl rfl (bool_tr rfl hc28)).trans rfl)
            rcases iteE hf with ⟨hc30, hf⟩ | ⟨hc30, hf⟩
            · refine WL.pass ((wanted_of rfl rfl (bool_tr rfl hc30)).trans rfl) rfl ?_
              refine WL.pass ((wanted_of rfl rfl (bool_tr rfl hc30)).trans rfl) rfl ?_
              refine WL.pass ((wanted_of rfl rfl (bool_tr rfl hc30)).trans rfl) rfl ?_
              refine WL.pickT (v := .bool true) (bool_tr rfl hc30) rfl ?_ (hg := (wanted_of rfl rfl (bool_tr rfl hc28)).trans rfl)
              refine WL.pickT (v := .bool true) (bool_tr rfl hc28) rfl ?_
              refine WL.move (v := .bool true) rfl ?_
              refine WL.pass ((wanted_of rfl rfl rfl).trans rfl) rfl ?_
              refine WL.pass ((wanted_of rfl rfl rfl).trans rfl) rfl ?_
              refine WL.pass ((wanted_of rfl rfl rfl).trans rfl) rfl ?_
              refine WL.pass ((wanted_of rfl rfl rfl).trans rfl) rfl ?_
              refine WL.pass (wanted_undef rfl rfl rfl) rfl ?_
              refine WL.pass (wanted_undef rfl rfl rfl) rfl ?_
              refine WL.pass (wanted_undef rfl rfl rfl) rfl ?_
              refine WL.pass ((wanted_of rfl rfl rfl).trans rfl) rfl ?_
              refine WL.pickT (v := .bool true) rfl rfl ?_
              refine WL.assign (v := .bool true) rfl ?_
              refine WL.nil ?_
              exact Jk23 true _ _ rfl ((hs.mask []).pick []) hf
            · refine WL.fieldAddr (m := 2) h15_1 FA24_2 rfl ?_ (hg := (wanted_of rfl rfl (bool_tr rfl hc30)).trans rfl)
              refine WL.loadF (z := x1.Faulty) F_api_Rule_Faulty hs 0 rfl 2 rfl rfl TI3 (.inr rfl) rfl rfl (fun v31 hs => ?_) (hg := (wanted_of rfl rfl (bool_tr rfl hc30)).trans rfl)
              obtain rfl := hs.int 0 rfl
              refine WL.bin (v := .bool (decide (12 < x1.Faulty))) rfl rfl (ib_gtr _ _ _) ?_ (hg := (wanted_of rfl rfl (bool_tr rfl hc30)).trans rfl)
              refine WL.pickF (v := .bool (decide (12 < x1.Faulty))) (bool_tr rfl hc30) rfl ?_ (hg := (wanted_of rfl rfl (bool_tr rfl hc28)).trans rfl)
              refine WL.pickT (v := .bool (decide (12 < x1.Faulty))) (bool_tr rfl hc28) rfl ?_
              refine WL.move (v := .bool (decide (12 < x1.Faulty))) rfl ?_
              rcases iteE hf with ⟨hc32, hf⟩ | ⟨hc32, hf⟩
              · refine WL.pass ((wanted_of rfl rfl (bool_tr rfl hc32)).trans rfl) rfl ?_
                refine WL.pass ((wanted_of rfl rfl (bool_tr rfl hc32)).trans rfl) rfl ?_
                refine WL.pass ((wanted_of rfl rfl (bool_tr rfl hc32)).trans rfl) rfl ?_
                refine WL.pass ((wanted_of rfl rfl (bool_tr rfl hc32)).trans rfl) rfl ?_
                refine WL.pass (wanted_undef rfl rfl rfl) rfl ?_
                refine WL.pass (wanted_undef rfl rfl rfl) rfl ?_
                refine WL.pass (wanted_undef rfl rfl rfl) rfl ?_
                refine WL.pass ((wanted_of rfl rfl (bool_tr rfl hc32)).trans rfl) rfl ?_
                refine WL.pickT (v := .bool true) (bool_tr rfl hc32) rfl ?_
                refine WL.assign (v := .bool true) rfl ?_
                refine WL.nil ?_
                exact Jk23 true _ _ rfl ((hs.mask []).pick []) hf
              · refine WL.fieldAddr (m := 0) h15_1 FA24_0 rfl ?_ (hg := (wanted_of rfl rfl (bool_tr rfl hc32)).trans rfl)
                refine WL.loadF (z := x1.Kind) F_api_Rule_Kind hs 0 rfl 3 rfl rfl TI3 (.inr rfl) rfl rfl (fun v33 hs => ?_) (hg := (wanted_of rfl rfl (bool_tr rfl hc32)).trans rfl)
                obtain rfl := hs.int 0 rfl
                refine WL.bin (v := .bool (x1.Kind != 4)) rfl rfl (ib_neq _ _ _) ?_ (hg := (wanted_of rfl rfl (bool_tr rfl hc32)).trans rfl)
                refine WL.move (v := .bool (x1.Kind != 4)) rfl ?_ (hg := (wanted_of rfl rfl (bool_tr rfl hc32)).trans rfl)
                rcases iteE hf with ⟨hc34, hf⟩ | ⟨hc34, hf⟩
                · refine WL.fieldAddr (m := 2) h15_1 FA24_2 rfl ?_ (hg := (wanted_of rfl rfl (bool_tr rfl hc34)).trans rfl)
                  refine WL.loadF (z := x1.Faulty) F_api_Rule_Faulty hs 0 rfl 4 rfl rfl TI3 (.inr rfl) rfl rfl (fun v35 hs => ?_) (hg := (wanted_of rfl rfl (bool_tr rfl hc34)).trans rfl)
                  obtain rfl := hs.int 0 rfl
                  refine WL.bin (v := .bool (x1.Faulty != 0)) rfl rfl (ib_neq _ _ _) ?_ (hg := (wanted_of rfl rfl (bool_tr rfl hc34)).trans rfl)
                  refine WL.pickT (v := .bool (x1.Faulty != 0)) (bool_tr rfl hc34) rfl ?_ (hg := (wanted_of rfl rfl (bool_tr rfl hc32)).trans rfl)
                  refine WL.pickF (v := .bool (x1.Faulty != 0)) (bool_tr rfl hc32) rfl ?_
                  refine WL.assign (v := .bool (x1.Faulty != 0)) rfl ?_
                  refine WL.nil ?_
                  exact Jk23 (x1.Faulty != 0) _ _ rfl ((hs.mask []).pick []) hf
                · refine WL.pass ((wanted_of rfl rfl (bool_tr rfl hc34)).trans rfl) rfl ?_
                  refine WL.pass ((wanted_of rfl rfl (bool_tr rfl hc34)).trans rfl) rfl ?_
                  refine WL.pass ((wanted_of rfl rfl (bool_tr rfl hc34)).trans rfl) rfl ?_
                  refine WL.pickF (v := .bool false) (bool_tr rfl hc34) rfl ?_ (hg := (wanted_of rfl rfl (bool_tr rfl hc32)).trans rfl)
                  refine WL.pickF (v := .bool false) (bool_tr rfl hc32) rfl ?_
                  refine WL.assign (v := .bool false) rfl ?_
                  refine WL.nil ?_
                  exact Jk23 false _ _ rfl ((hs.mask []).pick []) hf
          · refine WL.pass ((wanted_of rfl rfl (bool_tr rfl hc28)).trans rfl) rfl ?_
            refine WL.pass ((wanted_of rfl rfl (bool_tr rfl hc28)).trans rfl) rfl ?_
            refine WL.pass ((wanted_of rfl rfl (bool_tr rfl hc28)).trans rfl) rfl ?_
            refine WL.pass ((wanted_of rfl rfl (bool_tr rfl hc28)).trans rfl) rfl ?_
            refine WL.pass (wanted_undef rfl rfl rfl) rfl ?_
            refine WL.pass (wanted_undef rfl rfl rfl) rfl ?_
            refine WL.pass (wanted_undef rfl rfl rfl) rfl ?_
            refine WL.pass ((wanted_of rfl rfl (bool_tr rfl hc28)).trans rfl) rfl ?_
            refine WL.pickF (v := .bool false) (bool_tr rfl hc28) rfl ?_
            refine WL.move (v := .bool false) rfl ?_
            refine WL.fieldAddr (m := 0) h15_1 FA24_0 rfl ?_ (hg := (wanted_of rfl rfl rfl).trans rfl)
            refine WL.loadF (z := x1.Kind) F_api_Rule_Kind hs 0 rfl 1 rfl rfl TI3 (.inr rfl) rfl rfl (fun v36 hs => ?_) (hg := (wanted_of rfl rfl rfl).trans rfl)
            obtain rfl := hs.int 0 rfl
            refine WL.bin (v := .bool (x1.Kind != 4)) rfl rfl (ib_neq _ _ _) ?_ (hg := (wanted_of rfl rfl rfl).trans rfl)
            refine WL.move (v := .bool (x1.Kind != 4)) rfl ?_ (hg := (wanted_of rfl rfl rfl).trans rfl)
            rcases iteE hf with ⟨hc37, hf⟩ | ⟨hc37, hf⟩
            · refine WL.fieldAddr (m := 2) h15_1 FA24_2 rfl ?_ (hg := (wanted_of rfl rfl (bool_tr rfl hc37)).trans rfl)
              refine WL.loadF (z := x1.Faulty) F_api_Rule_Faulty hs 0 rfl 2 rfl rfl TI3 (.inr rfl) rfl rfl (fun v38 hs => ?_) (hg := (wanted_of rfl rfl (bool_tr rfl hc37)).trans rfl)
              obtain rfl := hs.int 0 rfl
              refine WL.bin (v := .bool (x1.Faulty != 0)) rfl rfl (ib_neq _ _ _) ?_ (hg := (wanted_of rfl rfl (bool_tr rfl hc37)).trans rfl)
              refine WL.pickT (v := .bool (x1.Faulty != 0)) (bool_tr rfl hc37) rfl ?_ (hg := (wanted_of rfl rfl rfl).trans rfl)
              refine WL.pickF (v := .bool (x1.Faulty != 0)) rfl rfl ?_
              refine WL.assign (v := .bool (x1.Faulty != 0)) rfl ?_
              refine WL.nil ?_
              exact Jk23 (x1.Faulty != 0) _ _ rfl ((hs.mask []).pick []) hf
            · refine WL.pass ((wanted_of rfl rfl (bool_tr rfl hc37)).trans rfl) rfl ?_
              refine WL.pass ((wanted_of rfl rfl (bool_tr rfl hc37)).trans rfl) rfl ?_
              refine WL.pass ((wanted_of rfl rfl (bool_tr rfl hc37)).trans rfl) rfl ?_
              refine WL.pickF (v := .bool false) (bool_tr rfl hc37) rfl ?_ (hg := (wanted_of rfl rfl rfl).trans rfl)
              refine WL.pickF (v := .bool false) rfl rfl ?_
              refine WL.assign (v := .bool false) rfl ?_
              refine WL.nil ?_
              exact Jk23 false _ _ rfl ((hs.mask []).pick []) hf
      refine W.region ?_
      refine WL.fieldAddr (m := 0) h9_1 FA24_0 rfl ?_
      refine WL.loadF (z := x1.Kind) F_api_Rule_Kind hs 0 rfl 0 rfl rfl TI3 (.inr rfl) rfl rfl (fun v39 hs => ?_)
      obtain rfl := hs.int 0 rfl
      refine WL.bin (v := .bool (x1.Kind == 3)) rfl rfl (ib_eql _ _ _) ?_
      refine WL.move (v := .bool (x1.Kind == 3)) rfl ?_
      rcases iteE hf with ⟨hc40, hf⟩ | ⟨hc40, hf⟩
      · refine WL.fieldAddr (m := 1) h9_1 FA24_1 rfl ?_ (hg := (wanted_of rfl rfl (bool_tr rfl hc40)).trans rfl)
        refine WL.loadF (z := x1.Columns) F_api_Rule_Columns hs 0 rfl 1 rfl rfl TI3 (.inr rfl) rfl rfl (fun v41 hs => ?_) (hg := (wanted_of rfl rfl (bool_tr rfl hc40)).trans rfl)
        obtain rfl := hs.int 0 rfl
        obtain ⟨x42, hxx42, hf⟩ := bindE hf
        refine WL.call (vs := [.int .i64 x1.Columns]) hs FN34 ⟨rfl, trivial⟩ (fun ok hA => esref06_Server.calls (x1 := x1.Columns) hxx42) ?_ (hg := (wanted_of rfl rfl (bool_tr rfl hc40)).trans rfl)
        rintro _ w hs
        refine WL.not rfl ?_ (hg := (wanted_of rfl rfl (bool_tr rfl hc40)).trans rfl)
        refine WL.pickT (v := .bool (!x42)) (bool_tr rfl hc40) rfl ?_
        refine WL.move (v := .bool (!x42)) rfl ?_
        rcases iteE hf with ⟨hc43, hf⟩ | ⟨hc43, hf⟩
        · refine WL.pass ((wanted_of rfl rfl (bool_tr rfl hc43)).trans rfl) rfl ?_
          refine WL.pass ((wanted_of rfl rfl (bool_tr rfl hc43)).trans rfl) rfl ?_
          refine WL.pass ((wanted_of rfl rfl (bool_tr rfl hc43)).trans rfl) rfl ?_
          refine WL.pass ((wanted_of rfl rfl (bool_tr rfl hc43)).trans rfl) rfl ?_
          refine WL.pass (wanted_undef rfl rfl rfl) rfl ?_
          refine WL.pass (wanted_undef rfl rfl rfl) rfl ?_
          refine WL.pass (wanted_undef rfl rfl rfl) rfl ?_
          refine WL.pass ((wanted_of rfl rfl (bool_tr rfl hc43)).trans rfl) rfl ?_
          refine WL.pickT (v := .bool true) (bool_tr rfl hc43) rfl ?_
          refine WL.assign (v := .bool true) rfl ?_
          refine WL.nil ?_
          exact Jk17 true _ _ h9_1 rfl ((hs.mask [true]).pick [2]) hf
        · refine WL.fieldAddr (m := 0) h9_1 FA24_0 rfl ?_ (hg := (wanted_of rfl rfl (bool_tr rfl hc43)).trans rfl)
          refine WL.loadF (z := x1.Kind) F_api_Rule_Kind hs 0 rfl 2 rfl rfl TI3 (.inr rfl) rfl rfl (fun v44 hs => ?_) (hg := (wanted_of rfl rfl (bool_tr rfl hc43)).trans rfl)
          obtain rfl := hs.int 0 rfl
          refine WL.bin (v := .bool (x1.Kind != 3)) rfl rfl (ib_neq _ _ _) ?_ (hg := (wanted_of rfl rfl (bool_tr rfl hc43)).trans rfl)
          refine WL.move (v := .bool (x1.Kind != 3)) rfl ?_ (hg := (wanted_of rfl rfl (bool_tr rfl hc43)).trans rfl)
          rcases iteE hf with ⟨hc45, hf⟩ | ⟨hc45, hf⟩
          · refine WL.fieldAddr (m := 1) h9_1 FA24_1 rfl ?_ (hg := (wanted_of rfl rfl (bool_tr rfl hc45)).trans rfl)
            refine WL.loadF (z := x1.Columns) F_api_Rule_Columns hs 0 rfl 3 rfl rfl TI3 (.inr rfl) rfl rfl (fun v46 hs => ?_) (hg := (wanted_of rfl rfl (bool_tr rfl hc45)).trans rfl)
            obtain rfl := hs.int 0 rfl
            refine WL.bin (v := .bool (x1.Columns != 0)) rfl rfl (ib_neq _ _ _) ?_ (hg := (wanted_of rfl rfl (bool_tr rfl hc45)).trans rfl)
            refine WL.pickT (v := .bool (x1.Columns != 0)) (bool_tr rfl hc45) rfl ?_ (hg := (wanted_of rfl rfl (bool_tr rfl hc43)).trans rfl)
            refine WL.pickF (v := .bool (x1.Columns != 0)) (bool_tr rfl hc43) rfl ?_
            refine WL.assign (v := .bool (x1.Columns != 0)) rfl ?_
            refine WL.nil ?_
            exact Jk17 (x1.Columns != 0) _ _ h9_1 rfl ((hs.mask [true]).pick [4]) hf
          · refine WL.pass ((wanted_of rfl rfl (bool_tr rfl hc45)).trans rfl) rfl ?_
            refine WL.pass ((wanted_of rfl rfl (bool_tr rfl hc45)).trans rfl) rfl ?_
            refine WL.pass ((wanted_of rfl rfl (bool_tr rfl hc45)).trans rfl) rfl ?_
            refine WL.pickF (v := .bool false) (bool_tr rfl hc45) rfl ?_ (hg := (wanted_of rfl rfl (bool_tr rfl hc43)).trans rfl)
            refine WL.pickF (v := .bool false) (bool_tr rfl hc43) rfl ?_
            refine WL.assign (v := .bool false) rfl ?_
            refine WL.nil ?_
            exact Jk17 false _ _ h9_1 rfl ((hs.mask [true]).pick [3]) hf
      · refine WL.pass ((wanted_of rfl rfl (bool_tr rfl hc40)).trans rfl) rfl ?_
        refine WL.pass ((wanted_of rfl rfl (bool_tr rfl hc40)).trans rfl) rfl ?_
        refine WL.pass ((wanted_of rfl rfl (bool_tr rfl hc40)).trans rfl) rfl ?_
        refine WL.pass ((wanted_of rfl rfl (bool_tr rfl hc40)).trans rfl) rfl ?_
        refine WL.pickF (v := .bool false) (bool_tr rfl hc40) rfl ?_
        refine WL.move (v := .bool false) rfl ?_
        refine WL.fieldAddr (m := 0) h9_1 FA24_0 rfl ?_ (hg := (wanted_of rfl rfl rfl).trans rfl)
        refine WL.loadF (z := x1.Kind) F_api_Rule_Kind hs 0 rfl 1 rfl rfl TI3 (.inr rfl) rfl rfl (fun v47 hs => ?_) (hg := (wanted_of rfl rfl rfl).trans rfl)
        obtain rfl := hs.int 0 rfl
        refine WL.bin (v := .bool (x1.Kind != 3)) rfl rfl (ib_neq _ _ _) ?_ (hg := (wanted_of rfl rfl rfl).trans rfl)
        refine WL.move (v := .bool (x1.Kind != 3)) rfl ?_ (hg := (wanted_of rfl rfl rfl).trans rfl)
        rcases iteE hf with ⟨hc48, hf⟩ | ⟨hc48, hf⟩
        · refine WL.fieldAddr (m := 1) h9_1 FA24_1 rfl ?_ (hg := (wanted_of rfl rfl (bool_tr rfl hc48)).trans rfl)
          refine WL.loadF (z := x1.Columns) F_api_Rule_Columns hs 0 rfl 2 rfl rfl TI3 (.inr rfl) rfl rfl (fun v49 hs => ?_) (hg := (wanted_of rfl rfl (bool_tr rfl hc48)).trans rfl)
          obtain rfl := hs.int 0 rfl
          refine WL.bin (v := .bool (x1.Columns != 0)) rfl rfl (ib_neq _ _ _) ?_ (hg := (wanted_of rfl rfl (bool_tr rfl hc48)).trans rfl)
          refine WL.pickT (v := .bool (x1.Columns != 0)) (bool_tr rfl hc48) rfl ?_ (hg := (wanted_of rfl rfl rfl).trans rfl)
          refine WL.pickF (v := .bool (x1.Columns != 0)) rfl rfl ?_
          refine WL.assign (v := .bool (x1.Columns != 0)) rfl ?_
          refine WL.nil ?_
          exact Jk17 (x1.Columns != 0) _ _ h9_1 rfl ((hs.mask [true]).pick [3]) hf
        · refine WL.pass ((wanted_of rfl rfl (bool_tr rfl hc48)).trans rfl) rfl ?_
          refine WL.pass ((wanted_of rfl rfl (bool_tr rfl hc48)).trans rfl) rfl ?_
          refine WL.pass ((wanted_of rfl rfl (bool_tr rfl hc48)).trans rfl) rfl ?_
          refine WL.pickF (v := .bool false) (bool_tr rfl hc48) rfl ?_ (hg := (wanted_of rfl rfl rfl).trans rfl)
          refine WL.pickF (v := .bool false) rfl rfl ?_
          refine WL.assign (v := .bool false) rfl ?_
          refine WL.nil ?_
          exact Jk17 false _ _ h9_1 rfl ((hs.mask [true]).pick [2]) hf
  refine W.region ?_
  refine WL.fieldAddr (m := 0) rfl FA24_0 rfl ?_
  refine WL.loadF (z := x1.Kind) F_api_Rule_Kind hs 0 rfl 0 rfl rfl TI3 (.inr rfl) rfl rfl (fun v50 hs => ?_)
  obtain rfl := hs.int 0 rfl
  refine WL.bin (v := .bool (decide (x1.Kind < 1))) rfl rfl (ib_lss _ _ _) ?_
  refine WL.move (v := .bool (decide (x1.Kind < 1))) rfl ?_
  rcases iteE hf with ⟨hc51, hf⟩ | ⟨hc51, hf⟩
  · refine WL.pass ((wanted_of rfl rfl (bool_tr rfl hc51)).trans rfl) rfl ?_
    refine WL.pass ((wanted_of rfl rfl (bool_tr rfl hc51)).trans rfl) rfl ?_
    refine WL.pass ((wanted_of rfl rfl (bool_tr rfl hc51)).trans rfl) rfl ?_
    refine WL.pickT (v := .bool true) (bool_tr rfl hc51) rfl ?_
    refine WL.assign (v := .bool true) rfl ?_
    refine WL.nil ?_
    exact Jk11 true _ _ rfl rfl ((hs.mask [true]).pick [1]) hf
  · refine WL.fieldAddr (m := 0) rfl FA24_0 rfl ?_ (hg := (wanted_of rfl rfl (bool_tr rfl hc51)).trans rfl)
    refine WL.loadF (z := x1.Kind) F_api_Rule_Kind hs 0 rfl 1 rfl rfl TI3 (.inr rfl) rfl rfl (fun v52 hs => ?_) (hg := (wanted_of rfl rfl (bool_tr rfl hc51)).trans rfl)
    obtain rfl := hs.int 0 rfl
    refine WL.bin (v := .bool (decide (4 < x1.Kind))) rfl rfl (ib_gtr _ _ _) ?_ (hg := (wanted_of rfl rfl (bool_tr rfl hc51)).trans rfl)
    refine WL.pickF (v := .bool (decide (4 < x1.Kind))) (bool_tr rfl hc51) rfl ?_
    refine WL.assign (v := .bool (decide (4 < x1.Kind))) rfl ?_
    refine WL.nil ?_
    exact Jk11 (decide (4 < x1.Kind)) _ _ rfl rfl ((hs.mask [true]).pick [2]) hf
end Go.Proofs.YthfoljpjhegkmaaDoor
