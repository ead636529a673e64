import Derived.Test.YthfoljpjhegkmaaDoorFh
import Derived.Test.YthfoljpjhegkmaaDoorFp7
import Derived.Test.YthfoljpjhegkmaaDoorFp8
import Derived.Test.YthfoljpjhegkmaaDoorFp10
import Derived.Test.YthfoljpjhegkmaaDoorFp11
set_option linter.unusedVariables false
set_option linter.unusedSimpArgs false
namespace Go.Proofs.YthfoljpjhegkmaaDoor
open Go Go.RowKit Go.Proofs.YthfoljpjhegkmaaDoorL
set_option maxRecDepth 100000
set_option maxHeartbeats 4000000
/-! elasticstore/elasticstoreref10.ValidateSummary: function 13 -/
theorem esref10_ValidateSummary.calls {ok : Nat → Prop} {w0 : World} {x1 : api_Summary} {v2 : Value} {r : Int} (hf : esref10_ValidateSummary x1 = some r) (i0 : (vl t_api_Summary x1 v2).holds ok w0) :
    Calls Tryd.prog 13 #[v2] w0 fun e w' => ∃ v, e = .returned v ∧ ∃ y : Unit, v = .int .i64 r ∧ St ok (bz w0) w' [] [] := by
  unfold esref10_ValidateSummary at hf
  refine calls_of_W (fn := Tryd.f13) (N := 127) Tryd.func13 rfl Tryd.ntmps13 rfl ?_
  have hs : St ok (bz w0) w0 [vl t_api_Summary x1 v2] [] := St.init (All.cons i0 All.nil)
  clear i0
  obtain ⟨cs3, hl4, rfl⟩ := hs.aggv (n := 9) 0 rfl rfl rfl
  refine W.seqK fun K5 hK5 => ?_
  refine W.region ?_
  refine WL.box (vs := cs3) hs rfl rfl (fun g6 w hs => ?_)
  refine WL.assign (v := .int .i64 0) rfl ?_
  refine WL.nil ?_
  refine hK5 _ _ ?_
  refine W.seqK fun K7 hK7 => ?_
  refine W.block ?_
  refine W.seqK fun K8 hK8 => ?_
  have Jk11 : ∀ (x10 : Bool) (ρ : Env) (w : World), ρ 1 = .pointer (some ⟨g6, 0, none⟩) → ρ 6 = .bool x10 → St ok (bz w0) w [vl t_api_Summary x1 (.agg cs3.toArray)] [blk g6 36 cs3] → esref10_ValidateSummary.j7 x1 x10 = some r → K8 ρ w := by
    intro x10 ρ w h9_1 h9_6 hs hf
    refine hK8 _ _ ?_
    unfold esref10_ValidateSummary.j7 at hf
    rcases iteE hf with ⟨hc12, hf⟩ | ⟨hc12, hf⟩
    · refine W.cond_true (bool_tr h9_6 hc12) ?_
      refine W.seqK fun K13 hK13 => ?_
      refine W.region ?_
      refine WL.assign (v := .int .i64 9) rfl ?_
      refine WL.nil ?_
      refine hK13 _ _ ?_
      refine W.ret ?_
      have hr := Option.some.inj hf; subst hr
      exact ⟨_, resOk_one rfl rfl, (), rfl, (hs.mask []).pick []⟩
    · refine W.cond_false (bool_tr h9_6 hc12) ?_
      refine W.seqK fun K14 hK14 => ?_
      have Jk17 : ∀ (x16 : Bool) (ρ : Env) (w : World), ρ 1 = .pointer (some ⟨g6, 0, none⟩) → ρ 17 = .bool x16 → St ok (bz w0) w [vl t_api_Summary x1 (.agg cs3.toArray)] [blk g6 36 cs3] → esref10_ValidateSummary.j6 x1 x16 = some r → K14 ρ w := by
        intro x16 ρ w h15_1 h15_17 hs hf
        refine hK14 _ _ ?_
        unfold esref10_ValidateSummary.j6 at hf
        rcases iteE hf with ⟨hc18, hf⟩ | ⟨hc18, hf⟩
        · refine W.cond_true (bool_tr h15_17 hc18) ?_
          refine W.seqK fun K19 hK19 => ?_
          refine W.region ?_
          refine WL.assign (v := .int .i64 7) rfl ?_
          refine WL.nil ?_
          refine hK19 _ _ ?_
          refine W.ret ?_
          have hr := Option.some.inj hf; subst hr
          exact ⟨_, resOk_one rfl rfl, (), rfl, (hs.mask []).pick []⟩
        · refine W.cond_false (bool_tr h15_17 hc18) ?_
          refine W.skip ?_
          refine hK7 _ _ ?_
          refine W.seqK fun K20 hK20 => ?_
          have Jk22 : ∀  (ρ : Env) (w : World), ρ 1 = .pointer (some ⟨g6, 0, none⟩) → St ok (bz w0) w [vl t_api_Summary x1 (.agg cs3.toArray)] [blk g6 36 cs3] → esref10_ValidateSummary.j3 x1 = some r → K20 ρ w := by
            intro  ρ w h21_1 hs hf
            refine hK20 _ _ ?_
            unfold esref10_ValidateSummary.j3 at hf
            refine W.seqK fun K23 hK23 => ?_
            have Jk25 : ∀  (ρ : Env) (w : World), ρ 1 = .pointer (some ⟨g6, 0, none⟩) → St ok (bz w0) w [vl t_api_Summary x1 (.agg cs3.toArray)] [blk g6 36 cs3] → esref10_ValidateSummary.j2 x1 = some r → K23 ρ w := by
              intro  ρ w h24_1 hs hf
              refine hK23 _ _ ?_
              unfold esref10_ValidateSummary.j2 at hf
              refine W.seqK fun K26 hK26 => ?_
              refine W.seqK fun K27 hK27 => ?_
              have Jk30 : ∀ (x29 : Bool) (ρ : Env) (w : World), ρ 126 = .bool x29 → St ok (bz w0) w [] [] → esref10_ValidateSummary.j1 x29 = some r → K27 ρ w := by
                intro x29 ρ w h28_126 hs hf
                refine hK27 _ _ ?_
                unfold esref10_ValidateSummary.j1 at hf
                rcases iteE hf with ⟨hc31, hf⟩ | ⟨hc31, hf⟩
                · refine W.cond_true (bool_tr h28_126 hc31) ?_
                  refine W.seqK fun K32 hK32 => ?_
                  refine W.region ?_
                  refine WL.assign (v := .int .i64 9) rfl ?_
                  refine WL.nil ?_
                  refine hK32 _ _ ?_
                  refine W.ret ?_
                  have hr := Option.some.inj hf; subst hr
                  exact ⟨_, resOk_one rfl rfl, (), rfl, (hs.mask []).pick []⟩
                · refine W.cond_false (bool_tr h28_126 hc31) ?_
                  refine W.skip ?_
                  refine hK26 _ _ ?_
                  refine W.seqK fun K33 hK33 => ?_
                  refine W.region ?_
                  refine WL.assign (v := .int .i64 0) rfl ?_
                  refine WL.nil ?_
                  refine hK33 _ _ ?_
                  refine W.ret ?_
                  have hr := Option.some.inj hf; subst hr
                  exact ⟨_, resOk_one rfl rfl, (), rfl, (hs.mask []).pick []⟩
              refine W.region ?_
              refine WL.fieldAddr (m := 6) h24_1 FA36_4 rfl ?_
              refine WL.loadF (z := x1.Version) F_api_Summary_Version hs 0 rfl 0 rfl rfl TI3 (.inr rfl) rfl rfl (fun v34 hs => ?_)
              obtain rfl := hs.int 0 rfl
              refine WL.bin (v := .bool (decide (x1.Version < 0))) rfl rfl (ib_lss _ _ _) ?_
              refine WL.move (v := .bool (decide (x1.Version < 0))) rfl ?_
              rcases iteE hf with ⟨hc35, hf⟩ | ⟨hc35, hf⟩
              · refine WL.pass ((wanted_of rfl rfl (bool_tr rfl hc35)).trans rfl) rfl ?_
                refine WL.pass ((wanted_of rfl rfl (bool_tr rfl hc35)).trans rfl) rfl ?_
                refine WL.pass ((wanted_of rfl rfl (bool_tr rfl hc35)).trans rfl) rfl ?_
                refine WL.pickT (v := .bool true) (bool_tr rfl hc35) rfl ?_
                refine WL.move (v := .bool true) rfl ?_
                refine WL.pass ((wanted_of rfl rfl rfl).trans rfl) rfl ?_
                refine WL.pass ((wanted_of rfl rfl rfl).trans rfl) rfl ?_
                refine WL.pass ((wanted_of rfl rfl rfl).trans rfl) rfl ?_
                refine WL.pickT (v := .bool true) rfl rfl ?_
                refine WL.move (v := .bool true) rfl ?_
                refine WL.pass ((wanted_of rfl rfl rfl).trans rfl) rfl ?_
                refine WL.pass ((wanted_of rfl rfl rfl).trans rfl) rfl ?_
                refine WL.pass ((wanted_of rfl rfl rfl).trans rfl) rfl ?_
                refine WL.pass ((wanted_of rfl rfl rfl).trans rfl) rfl ?_
                refine WL.pass ((wanted_of rfl rfl rfl).trans rfl) rfl ?_
                refine WL.pass (wanted_undef rfl rfl rfl) rfl ?_
                refine WL.pass (wanted_undef rfl rfl rfl) rfl ?_
                refine WL.pass (wanted_undef rfl rfl rfl) rfl ?_
                refine WL.pass (wanted_undef rfl rfl rfl) rfl ?_
                refine WL.pass (wanted_undef rfl rfl rfl) rfl ?_
                refine WL.pass (wanted_undef rfl rfl rfl) rfl ?_
                refine WL.pass (wanted_undef rfl rfl rfl) rfl ?_
                refine WL.pass (wanted_undef rfl rfl rfl) rfl ?_
                refine WL.pass (wanted_undef rfl rfl rfl) rfl ?_
                refine WL.pass (wanted_undef rfl rfl rfl) rfl ?_
                refine WL.pass (wanted_undef rfl rfl rfl) rfl ?_
                refine WL.pass (wanted_undef rfl rfl rfl) rfl ?_
                refine WL.pass (wanted_undef rfl rfl rfl) rfl ?_
                refine WL.pass ((wanted_of rfl rfl rfl).trans rfl) rfl ?_
                refine WL.pickT (v := .bool true) rfl rfl ?_
                refine WL.nil ?_
                exact Jk30 true _ _ rfl ((hs.mask []).pick []) hf
              · refine WL.fieldAddr (m := 7) h24_1 FA36_5 rfl ?_ (hg := (wanted_of rfl rfl (bool_tr rfl hc35)).trans rfl)
                refine WL.loadF (z := x1.Admin) F_api_Summary_Admin hs 0 rfl 1 rfl rfl TI3 (.inr rfl) rfl rfl (fun v36 hs => ?_) (hg := (wanted_of rfl rfl (bool_tr rfl hc35)).trans rfl)
                obtain rfl := hs.int 0 rfl
                refine WL.bin (v := .bool (decide (x1.Admin < 0))) rfl rfl (ib_lss _ _ _) ?_ (hg := (wanted_of rfl rfl (bool_tr rfl hc35)).trans rfl)
                refine WL.pickF (v := .bool (decide (x1.Admin < 0))) (bool_tr rfl hc35) rfl ?_
                refine WL.move (v := .bool (decide (x1.Admin < 0))) rfl ?_
                rcases iteE hf with ⟨hc37, hf⟩ | ⟨hc37, hf⟩
                · refine WL.pass ((wanted_of rfl rfl (bool_tr rfl hc37)).trans rfl) rfl ?_
                  refine WL.pass ((wanted_of rfl rfl (bool_tr rfl hc37)).trans rfl) rfl ?_
                  refine WL.pass ((wanted_of rfl rfl (bool_tr rfl hc37)).trans rfl) rfl ?_
                  refine WL.pickT (v := .bool true) (bool_tr rfl hc37) rfl ?_
                  refine WL.move (v := .bool true) rfl ?_
                  refine WL.pass ((wanted_of rfl rfl rfl).trans rfl) rfl ?_
                  refine WL.pass ((wanted_of rfl rfl rfl).trans rfl) rfl ?_
                  refine WL.pass ((wanted_of rfl rfl rfl).trans rfl) rfl ?_
                  refine WL.pass ((wanted_of rfl rfl rfl).trans rfl) rfl ?_
                  refine WL.pass ((wanted_of rfl rfl rfl).trans rfl) rfl ?_
                  refine WL.pass (wanted_undef rfl rfl rfl) rfl ?_
                  refine WL.pass (wanted_undef rfl rfl rfl) rfl ?_
                  refine WL.pass (wanted_undef rfl rfl rfl) rfl ?_
                  refine WL.pass (wanted_undef rfl rfl rfl) rfl ?_
                  refine WL.pass (wanted_undef rfl rfl rfl) rfl ?_
                  refine WL.pass (wanted_undef rfl rfl rfl) rfl ?_
                  refine WL.pass (wanted_undef rfl rfl rfl) rfl ?_
                  refine WL.pass (wanted_undef rfl rfl rfl) rfl ?_
                  refine WL.pass (wanted_undef rfl rfl rfl) rfl ?_
                  refine WL.pass (wanted_undef rfl rfl rfl) rfl ?_
                  refine WL.pass (wanted_undef rfl rfl rfl) rfl ?_
                  refine WL.pass (wanted_undef rfl rfl rfl) rfl ?_
                  refine WL.pass (wanted_undef rfl rfl rfl) rfl ?_
                  refine WL.pass ((wanted_of rfl rfl rfl).trans rfl) rfl ?_
                  refine WL.pickT (v := .bool true) rfl rfl ?_
                  refine WL.nil ?_
                  exact Jk30 true _ _ rfl ((hs.mask []).pick []) hf
                · refine WL.fieldAddr (m := 8) h24_1 FA36_6 rfl ?_ (hg := (wanted_of rfl rfl (bool_tr rfl hc37)).trans rfl)
                  refine WL.loadF (z := x1.Number) F_api_Summary_Number hs 0 rfl 2 rfl rfl TI3 (.inr rfl) rfl rfl (fun v38 hs => ?_) (hg := (wanted_of rfl rfl (bool_tr rfl hc37)).trans rfl)
                  obtain rfl := hs.int 0 rfl
                  refine WL.bin (v := .bool (decide (x1.Number < 0))) rfl rfl (ib_lss _ _ _) ?_ (hg := (wanted_of rfl rfl (bool_tr rfl hc37)).trans rfl)
                  refine WL.pickF (v := .bool (decide (x1.Number < 0))) (bool_tr rfl hc37) rfl ?_
                  refine WL.move (v := .bool (decide (x1.Number < 0))) rfl ?_
                  rcases iteE hf with ⟨hc39, hf⟩ | ⟨hc39, hf⟩
                  · refine WL.pass ((wanted_of rfl rfl (bool_tr rfl hc39)).trans rfl) rfl ?_
                    refine WL.pass ((wanted_of rfl rfl (bool_tr rfl hc39)).trans rfl) rfl ?_
                    refine WL.pass ((wanted_of rfl rfl (bool_tr rfl hc39)).trans rfl) rfl ?_
                    refine WL.pass ((wanted_of rfl rfl (bool_tr rfl hc39)).trans rfl) rfl ?_
                    refine WL.pass ((wanted_of rfl rfl (bool_tr rfl hc39)).trans rfl) rfl ?_
                    refine WL.pass (wanted_undef rfl rfl rfl) rfl ?_
                    refine WL.pass (wanted_undef rfl rfl rfl) rfl ?_
                    refine WL.pass (wanted_undef rfl rfl rfl) rfl ?_
                    refine WL.pass (wanted_undef rfl rfl rfl) rfl ?_
                    refine WL.pass (wanted_undef rfl rfl rfl) rfl ?_
                    refine WL.pass (wanted_undef rfl rfl rfl) rfl ?_
                    refine WL.pass (wanted_undef rfl rfl rfl) rfl ?_
                    refine WL.pass (wanted_undef rfl rfl rfl) rfl ?_
                    refine WL.pass (wanted_undef rfl rfl rfl) rfl ?_
                    refine WL.pass (wanted_undef rfl rfl rfl) rfl ?_
                    refine WL.pass (wanted_undef rfl rfl rfl) rfl ?_
                    refine WL.pass (wanted_undef rfl rfl rfl) rfl ?_
                    refine WL.pass (wanted_undef rfl rfl rfl) rfl ?_
                    refine WL.pass ((wanted_of rfl rfl (bool_tr rfl hc39)).trans rfl) rfl ?_
                    refine WL.pickT (v := .bool true) (bool_tr rfl hc39) rfl ?_
                    refine WL.nil ?_
                    exact Jk30 true _ _ rfl ((hs.mask []).pick []) hf
                  · refine WL.fieldAddr (m := 3) h24_1 FA36_3 rfl ?_ (hg := (wanted_of rfl rfl (bool_tr rfl hc39)).trans rfl)
                    refine WL.loadF (z := x1.Rule) F_api_Summary_Rule hs 0 rfl 3 rfl rfl TI24 (.inl rfl) rfl rfl (fun v40 hs => ?_) (hg := (wanted_of rfl rfl (bool_tr rfl hc39)).trans rfl)
                    obtain ⟨cs41, hl42, rfl⟩ := hs.aggv (n := 3) 0 rfl rfl rfl
                    refine WL.build (vs := []) (cs := [.int .i64 0, .int .i64 0, .int .i64 0]) trivial (bld PL24 rfl) ?_ (hg := (wanted_of rfl rfl (bool_tr rfl hc39)).trans rfl)
                    obtain rfl := open_api_Rule hs 0 rfl
                    refine WL.eqA rfl rfl EG24 (EQ24 (⟨x1.Rule.Kind, x1.Rule.Columns, x1.Rule.Faulty⟩ : api_Rule) (⟨0, 0, 0⟩ : api_Rule)) ?_ (hg := (wanted_of rfl rfl (bool_tr rfl hc39)).trans rfl)
                    refine WL.move (v := .bool (decide ((⟨x1.Rule.Kind, x1.Rule.Columns, x1.Rule.Faulty⟩ : api_Rule) = (⟨0, 0, 0⟩ : api_Rule)))) rfl ?_ (hg := (wanted_of rfl rfl (bool_tr rfl hc39)).trans rfl)
                    rcases iteE hf with ⟨hc43, hf⟩ | ⟨hc43, hf⟩
                    · refine WL.fieldAddr (m := 6) h24_1 FA36_4 rfl ?_ (hg := (wanted_of rfl rfl (bool_tr rfl hc43)).trans rfl)
                      refine WL.loadF (z := x1.Version) F_api_Summary_Version hs 0 rfl 4 rfl rfl TI3 (.inr rfl) rfl rfl (fun v44 hs => ?_) (hg := (wanted_of rfl rfl (bool_tr rfl hc43)).trans rfl)
                      obtain rfl := hs.int 0 rfl
                      refine WL.bin (v := .bool (x1.Version != 0)) rfl rfl (ib_neq _ _ _) ?_ (hg := (wanted_of rfl rfl (bool_tr rfl hc43)).trans rfl)
                      refine WL.move (v := .bool (x1.Version != 0)) rfl ?_ (hg := (wanted_of rfl rfl (bool_tr rfl hc43)).trans rfl)
                      rcases iteE hf with ⟨hc45, hf⟩ | ⟨hc45, hf⟩
                      · refine WL.pass ((wanted_of rfl rfl (bool_tr rfl hc45)).trans rfl) rfl ?_
                        refine WL.pass ((wanted_of rfl rfl (bool_tr rfl hc45)).trans rfl) rfl ?_
                        refine WL.pass ((wanted_of rfl rfl (bool_tr rfl hc45)).trans rfl) rfl ?_
                        refine WL.pickT (v := .bool true) (bool_tr rfl hc45) rfl ?_ (hg := (wanted_of rfl rfl (bool_tr rfl hc43)).trans rfl)
                        refine WL.move (v := .bool true) rfl ?_ (hg := (wanted_of rfl rfl (bool_tr rfl hc43)).trans rfl)
                        refine WL.pass ((wanted_of rfl rfl rfl).trans rfl) rfl ?_
                        refine WL.pass ((wanted_of rfl rfl rfl).trans rfl) rfl ?_
                        refine WL.pass ((wanted_of rfl rfl rfl).trans rfl) rfl ?_
                        refine WL.pickT (v := .bool true) rfl rfl ?_ (hg := (wanted_of rfl rfl (bool_tr rfl hc43)).trans rfl)
                        refine WL.pickT (v := .bool true) (bool_tr rfl hc43) rfl ?_ (hg := (wanted_of rfl rfl (bool_tr rfl hc39)).trans rfl)
                        refine WL.pickF (v := .bool true) (bool_tr rfl hc39) rfl ?_
                        refine WL.nil ?_
                        exact Jk30 true _ _ rfl ((hs.mask []).pick []) hf
                      · refine WL.fieldAddr (m := 7) h24_1 FA36_5 rfl ?_ (hg := (wanted_of rfl rfl (bool_tr rfl hc45)).trans rfl)
                        refine WL.loadF (z := x1.Admin) F_api_Summary_Admin hs 0 rfl 5 rfl rfl TI3 (.inr rfl) rfl rfl (fun v46 hs => ?_) (hg := (wanted_of rfl rfl (bool_tr rfl hc45)).trans rfl)
                        obtain rfl := hs.int 0 rfl
                        refine WL.bin (v := .bool (x1.Admin != 0)) rfl rfl (ib_neq _ _ _) ?_ (hg := (wanted_of rfl rfl (bool_tr rfl hc45)).trans rfl)
                        refine WL.pickF (v := .bool (x1.Admin != 0)) (bool_tr rfl hc45) rfl ?_ (hg := (wanted_of rfl rfl (bool_tr rfl hc43)).trans rfl)
                        refine WL.move (v := .bool (x1.Admin != 0)) rfl ?_ (hg := (wanted_of rfl rfl (bool_tr rfl hc43)).trans rfl)
                        rcases iteE hf with ⟨hc47, hf⟩ | ⟨hc47, hf⟩
                        · refine WL.pass ((wanted_of rfl rfl (bool_tr rfl hc47)).trans rfl) rfl ?_
                          refine WL.pass ((wanted_of rfl rfl (bool_tr rfl hc47)).trans rfl) rfl ?_
                          refine WL.pass ((wanted_of rfl rfl (bool_tr rfl hc47)).trans rfl) rfl ?_
                          refine WL.pickT (v := .bool true) (bool_tr rfl hc47) rfl ?_ (hg := (wanted_of rfl rfl (bool_tr rfl hc43)).trans rfl)
                          refine WL.pickT (v := .bool true) (bool_tr rfl hc43) rfl ?_ (hg := (wanted_of rfl rfl (bool_tr rfl hc39)).trans rfl)
                          refine WL.pickF (v := .bool true) (bool_tr rfl hc39) rfl ?_
                          refine WL.nil ?_
                          exact Jk30 true _ _ rfl ((hs.mask []).pick []) hf
                        · refine WL.fieldAddr (m := 8) h24_1 FA36_6 rfl ?_ (hg := (wanted_of rfl rfl (bool_tr rfl hc47)).trans rfl)
                          refine WL.loadF (z := x1.Number) F_api_Summary_Number hs 0 rfl 6 rfl rfl TI3 (.inr rfl) rfl rfl (fun v48 hs => ?_) (hg := (wanted_of rfl rfl (bool_tr rfl hc47)).trans rfl)
                          obtain rfl := hs.int 0 rfl
                          refine WL.bin (v := .bool (x1.Number != 0)) rfl rfl (ib_neq _ _ _) ?_ (hg := (wanted_of rfl rfl (bool_tr rfl hc47)).trans rfl)
                          refine WL.pickF (v := .bool (x1.Number != 0)) (bool_tr rfl hc47) rfl ?_ (hg := (wanted_of rfl rfl (bool_tr rfl hc43)).trans rfl)
                          refine WL.pickT (v := .bool (x1.Number != 0)) (bool_tr rfl hc43) rfl ?_ (hg := (wanted_of rfl rfl (bool_tr rfl hc39)).trans rfl)
                          refine WL.pickF (v := .bool (x1.Number != 0)) (bool_tr rfl hc39) rfl ?_
                          refine WL.nil ?_
                          exact Jk30 (x1.Number != 0) _ _ rfl ((hs.mask []).pick []) hf
                    · refine WL.pass ((wanted_of rfl rfl (bool_tr rfl hc43)).trans rfl) rfl ?_
                      refine WL.pass ((wanted_of rfl rfl (bool_tr rfl hc43)).trans rfl) rfl ?_
                      refine WL.pass ((wanted_of rfl rfl (bool_tr rfl hc43)).trans rfl) rfl ?_
                      refine WL.pass ((wanted_of rfl rfl (bool_tr rfl hc43)).trans rfl) rfl ?_
                      refine WL.pass (wanted_undef rfl rfl rfl) rfl ?_
                      refine WL.pass (wanted_undef rfl rfl rfl) rfl ?_
                      refine WL.pass (wanted_undef rfl rfl rfl) rfl ?_
                      refine WL.pass ((wanted_of rfl rfl (bool_tr rfl hc43)).trans rfl) rfl ?_
                      refine WL.pass ((wanted_of rfl rfl (bool_tr rfl hc43)).trans rfl) rfl ?_
                      refine WL.pass (wanted_undef rfl rfl rfl) rfl ?_
                      refine WL.pass (wanted_undef rfl rfl rfl) rfl ?_
                      refine WL.pass (wanted_undef rfl rfl rfl) rfl ?_
                      refine WL.pass ((wanted_of rfl rfl (bool_tr rfl hc43)).trans rfl) rfl ?_
                      refine WL.pickF (v := .bool false) (bool_tr rfl hc43) rfl ?_ (hg := (wanted_of rfl rfl (bool_tr rfl hc39)).trans rfl)
                      refine WL.pickF (v := .bool false) (bool_tr rfl hc39) rfl ?_
                      refine WL.nil ?_
                      exact Jk30 false _ _ rfl ((hs.mask []).pick []) hf
            refine W.seqK fun K49 hK49 => ?_
            refine W.region ?_
            refine WL.fieldAddr (m := 3) h21_1 FA36_3 rfl ?_
            refine WL.loadF (z := x1.Rule) F_api_Summary_Rule hs 0 rfl 0 rfl rfl TI24 (.inl rfl) rfl rfl (fun v50 hs => ?_)
            obtain ⟨cs51, hl52, rfl⟩ := hs.aggv (n := 3) 0 rfl rfl rfl
            refine WL.build (vs := []) (cs := [.int .i64 0, .int .i64 0, .int .i64 0]) trivial (bld PL24 rfl) ?_
            obtain rfl := open_api_Rule hs 0 rfl
            refine WL.eqA rfl rfl EG24 (NQ24 (⟨x1.Rule.Kind, x1.Rule.Columns, x1.Rule.Faulty⟩ : api_Rule) (⟨0, 0, 0⟩ : api_Rule)) ?_
            refine WL.nil ?_
            refine hK49 _ _ ?_
            rcases iteE hf with ⟨hc53, hf⟩ | ⟨hc53, hf⟩
            · refine W.cond_true (bool_tr rfl hc53) ?_
              refine W.seqK fun K54 hK54 => ?_
              refine W.region ?_
              refine WL.fieldAddr (m := 3) h21_1 FA36_3 rfl ?_
              refine WL.loadF (z := x1.Rule) F_api_Summary_Rule hs 0 rfl 1 rfl rfl TI24 (.inl rfl) rfl rfl (fun v55 hs => ?_)
              obtain ⟨cs56, hl57, rfl⟩ := hs.aggv (n := 3) 0 rfl rfl rfl
              obtain ⟨x58, hxx58, hf⟩ := bindE hf
              refine WL.call (vs := [.agg cs56.toArray]) hs FN35 ⟨rfl, trivial⟩ (fun ok hA => esref06_ValidateRule.calls (x1 := x1.Rule) hxx58 (hA.get 0 rfl)) ?_
              rintro _ w hs
              refine WL.assign (v := .int .i64 x58) rfl ?_
              refine WL.nil ?_
              refine hK54 _ _ ?_
              refine W.seqK fun K59 hK59 => ?_
              refine W.region ?_
              refine WL.move (v := .int .i64 x58) rfl ?_
              refine WL.bin (v := .bool (x58 != 0)) rfl rfl (ib_neq _ _ _) ?_
              refine WL.nil ?_
              refine hK59 _ _ ?_
              rcases iteE hf with ⟨hc60, hf⟩ | ⟨hc60, hf⟩
              · refine W.cond_true (bool_tr rfl hc60) ?_
                refine W.seqK fun K61 hK61 => ?_
                refine W.region ?_
                refine WL.move (v := .int .i64 x58) rfl ?_
                refine WL.assign (v := .int .i64 x58) rfl ?_
                refine WL.nil ?_
                refine hK61 _ _ ?_
                refine W.ret ?_
                have hr := Option.some.inj hf; subst hr
                exact ⟨_, resOk_one rfl rfl, (), rfl, (hs.mask []).pick []⟩
              · refine W.cond_false (bool_tr rfl hc60) ?_
                refine W.skip ?_
                exact Jk25  _ _ h21_1 ((hs.mask [true]).pick [2]) hf
            · refine W.cond_false (bool_tr rfl hc53) ?_
              refine W.skip ?_
              exact Jk25  _ _ h21_1 ((hs.mask [true]).pick [1]) hf
          refine W.seqK fun K62 hK62 => ?_
          refine W.region ?_
          refine WL.assign (v := .int .i64 0) rfl ?_
          refine WL.nil ?_
          refine hK62 _ _ ?_
          refine W.block ?_
          obtain ⟨bs65, hbs65, hfs65⟩ := bindE hf
          refine W.loop hbs65 (fun s ρ w => match s with | x64 => ρ 1 = .pointer (some ⟨g6, 0, none⟩) ∧ ρ 3 = .int .i64 x64 ∧ St ok (bz w0) w [vl t_api_Summary x1 (.agg cs3.toArray)] [blk g6 36 cs3]) ⟨h15_1, rfl, (hs.mask [true]).pick [0]⟩ ?_
          intro x64 ρ w os65 hI hf hbbs65
          obtain ⟨h63_1, h63_3, hs⟩ := hI
          unfold esref10_ValidateSummary.l1 at hf
          refine W.seqK fun K66 hK66 => ?_
          refine W.seqK fun K67 hK67 => ?_
          refine W.region ?_
          refine WL.move (v := .int .i64 x64) h63_3 ?_
          refine WL.fieldAddr (m := 2) h63_1 FA36_2 rfl ?_
          refine WL.loadF (z := x1.Weights) F_api_Summary_Weights hs 0 rfl 0 rfl rfl TI34 (.inr rfl) rfl rfl (fun v68 hs => ?_)
          obtain ⟨a69, c70, rfl⟩ := hs.slice 0 rfl
          refine WL.len (v := .slice a69 (x1.Weights).length c70) rfl (len_slice UN34) ?_
          refine WL.bin (v := .bool (decide (x64 < ((x1.Weights).length : Int)))) rfl rfl (ib_lss _ _ _) ?_
          refine WL.nil ?_
          refine hK67 _ _ ?_
          rcases iteE hf with ⟨hc71, hf⟩ | ⟨hc71, hf⟩
          · refine W.cond_true (bool_tr rfl hc71) ?_
            refine W.skip ?_
            refine hK66 _ _ ?_
            refine W.seqK fun K72 hK72 => ?_
            refine W.block ?_
            refine W.seqK fun K73 hK73 => ?_
            refine W.region ?_
            refine WL.fieldAddr (m := 2) h63_1 FA36_2 rfl ?_
            refine WL.loadF (z := x1.Weights) F_api_Summary_Weights hs 0 rfl 1 rfl rfl TI34 (.inr rfl) rfl rfl (fun v74 hs => ?_)
            obtain ⟨a75, c76, rfl⟩ := hs.slice 0 rfl
            refine WL.move (v := .int .i64 x64) h63_3 ?_
            obtain ⟨x77, hxx77, hf⟩ := bindE hf
            refine WL.indexAddr hs 0 rfl UN34 TI59 rfl rfl hxx77 (fun ad78 hs => ?_)
            refine WL.loadP hs 0 rfl TI59 (.inl rfl) rfl (fun v79 hs => ?_)
            obtain ⟨cs80, hl81, rfl⟩ := hs.aggv (n := 5) 0 rfl rfl rfl
            refine WL.alloc hs ZV59 (fun g82 w hs => ?_)
            refine WL.storeAll (vs := cs80) hs 0 rfl TI59 rfl rfl rfl hl81 (hs.ones 0 rfl rfl) rfl (fun w hs => ?_)
            refine WL.nil ?_
            refine hK73 _ _ ?_
            refine W.seqK fun K83 hK83 => ?_
            refine W.seqK fun K84 hK84 => ?_
            have Jk87 : ∀ (x86 : Bool) (ρ : Env) (w : World), ρ 1 = .pointer (some ⟨g6, 0, none⟩) → ρ 3 = .int .i64 x64 → ρ 4 = .pointer (some ⟨g82, 0, none⟩) → ρ 68 = .bool x86 → St ok (bz w0) w [vl t_api_WeightEntry x77 (.agg cs80.toArray), vl t_api_Summary x1 (.agg cs3.toArray)] [blk g82 59 cs80, blk g6 36 cs3] → esref10_ValidateSummary.j5 x1 x64 x77 x86 = some os65 → K84 ρ w := by
              intro x86 ρ w h85_1 h85_3 h85_4 h85_68 hs hf
              refine hK84 _ _ ?_
              unfold esref10_ValidateSummary.j5 at hf
              rcases iteE hf with ⟨hc88, hf⟩ | ⟨hc88, hf⟩
              · refine W.cond_true (bool_tr h85_68 hc88) ?_
                refine W.seqK fun K89 hK89 => ?_
                refine W.region ?_
                refine WL.assign (v := .int .i64 9) rfl ?_
                refine WL.nil ?_
                refine hK89 _ _ ?_
                refine W.ret ?_
                have hr := Option.some.inj hf; subst hr
                have hr := hbbs65 _ rfl; subst hr
                have hf := hfs65
                have hr := Option.some.inj hf; subst hr
                exact ⟨_, resOk_one rfl rfl, (), rfl, (hs.mask []).pick []⟩
              · refine W.cond_false (bool_tr h85_68 hc88) ?_
                refine W.skip ?_
                refine hK83 _ _ ?_
                refine W.seqK fun K90 hK90 => ?_
                have Jk93 : ∀ (x92 : Bool) (ρ : Env) (w : World), ρ 1 = .pointer (some ⟨g6, 0, none⟩) → ρ 3 = .int .i64 x64 → ρ 82 = .bool x92 → St ok (bz w0) w [vl t_api_Summary x1 (.agg cs3.toArray)] [blk g6 36 cs3] → esref10_ValidateSummary.j4 x64 x92 = some os65 → K90 ρ w := by
                  intro x92 ρ w h91_1 h91_3 h91_82 hs hf
                  refine hK90 _ _ ?_
                  unfold esref10_ValidateSummary.j4 at hf
                  rcases iteE hf with ⟨hc94, hf⟩ | ⟨hc94, hf⟩
                  · refine W.cond_true (bool_tr h91_82 hc94) ?_
                    refine W.seqK fun K95 hK95 => ?_
                    refine W.region ?_
                    refine WL.assign (v := .int .i64 7) rfl ?_
                    refine WL.nil ?_
                    refine hK95 _ _ ?_
                    refine W.ret ?_
                    have hr := Option.some.inj hf; subst hr
                    have hr := hbbs65 _ rfl; subst hr
                    have hf := hfs65
                    have hr := Option.some.inj hf; subst hr
                    exact ⟨_, resOk_one rfl rfl, (), rfl, (hs.mask []).pick []⟩
                  · refine W.cond_false (bool_tr h91_82 hc94) ?_
                    refine W.skip ?_
                    refine hK72 _ _ ?_
                    refine W.region ?_
                    refine WL.move (v := .int .i64 x64) h91_3 ?_
                    obtain ⟨x96, ex96, hf⟩ := letE hf
                    refine WL.bin (v := .int .i64 x96) rfl rfl (ib_as ex96 (ib_add _ _ _)) ?_
                    refine WL.assign (v := .int .i64 x96) rfl ?_
                    refine WL.nil ?_
                    exact ⟨_, (Option.some.inj hf).symm, h91_1, rfl, (hs.mask [true]).pick [0]⟩
                rcases iteE hf with ⟨hc97, hf⟩ | ⟨hc97, hf⟩
                · obtain ⟨x101, ex101, hf⟩ := letE hf
                  obtain ⟨x102, hxx102, hf⟩ := bindE hf
                  refine W.any (by kernel_rfl) 14 0 [true, true, true, true, true, true, true, true, true, true, true, true, true, true] rfl rfl (poAt [pv (.int .i64 x64), pv (.bool (decide (0 < x64))), pv (.bool (decide (0 < x64))), pv (.pointer (some ⟨g6, 2, none⟩)), pq (fun y : (Option Addr × Nat) => .slice y.1 (x1.Weights).length y.2) (fun v => [vl (tSlice t_api_WeightEntry) x1.Weights v]) (fun v => []), pv (.int .i64 x64), pv (.int .i64 x101), pq (fun y : Addr => .pointer (some y)) (fun v => [pl t_api_WeightEntry x102 (adOf v)]) (fun v => []), pq (fun y : Addr => .pointer (some y)) (fun v => [pl (tInt .i64) x102.Server (adOf v)]) (fun v => []), pv (.int .i64 x102.Server), pv (.pointer (some ⟨g82, 0, none⟩)), pv (.int .i64 x77.Server), pv (.bool (decide (x77.Server ≤ x102.Server))), pv (.bool (decide (x77.Server ≤ x102.Server)))]) (Λ := [blk g82 59 cs80, blk g6 36 cs3]) hs (by kernel_rfl) (by kernel_rfl) (by kernel_rfl) ⟨⟨⟨⟨⟨⟨⟨⟨⟨⟨⟨⟨⟨⟨trivial, ?_⟩, ?_⟩, ?_⟩, ?_⟩, ?_⟩, ?_⟩, ?_⟩, ?_⟩, ?_⟩, ?_⟩, ?_⟩, ?_⟩, ?_⟩, ?_⟩ ?_
                  · intro ρ w Γx Λx hs hu hp
                    refine WL.move (v := .int .i64 x64) ((hu 3 rfl).trans h85_3) ?_
                    exact WL.nil ⟨rfl, _, rfl, rfl, hs.cutG 0 0⟩
                  · intro ρ w Γx Λx hs hu hp
                    have e107 : ρ 69 = .int .i64 x64 := (hp 0 rfl).1
                    refine WL.bin (v := .bool (decide (0 < x64))) e107 rfl (ib_gtr _ _ _) ?_
                    exact WL.nil ⟨rfl, _, rfl, rfl, hs.cutG 0 0⟩
                  · intro ρ w Γx Λx hs hu hp
                    have e108 : ρ 70 = .bool (decide (0 < x64)) := (hp 1 rfl).1
                    refine WL.move (v := .bool (decide (0 < x64))) e108 ?_
                    exact WL.nil ⟨rfl, _, rfl, rfl, hs.cutG 0 0⟩
                  · intro ρ w Γx Λx hs hu hp
                    have e109 : ρ 71 = .bool (decide (0 < x64)) := (hp 2 rfl).1
                    refine WL.fieldAddr (m := 2) ((hu 1 rfl).trans h85_1) FA36_2 rfl ?_ (hg := (wanted_of rfl rfl (bool_tr e109 hc97)).trans rfl)
                    exact WL.nil ⟨rfl, _, rfl, rfl, hs.cutG 0 0⟩
                  · intro ρ w Γx Λx hs hu hp
                    have e110 : ρ 72 = .pointer (some ⟨g6, 2, none⟩) := (hp 3 rfl).1
                    have e111 : ρ 71 = .bool (decide (0 < x64)) := (hp 2 rfl).1
                    refine WL.loadF (z := x1.Weights) F_api_Summary_Weights hs (Λx.length + 1) (getApp rfl) (Γx.length + 1) (getApp rfl) rfl TI34 (.inr rfl) e110 rfl (fun v98 hs => ?_) (hg := (wanted_of rfl rfl (bool_tr e111 hc97)).trans rfl)
                    obtain ⟨a99, c100, rfl⟩ := hs.slice 0 rfl
                    have hs := hs.add (it := vl (tSlice t_api_WeightEntry) x1.Weights (.slice a99 (x1.Weights).length c100)) fun ok hA => hA.get 0 rfl
                    exact WL.nil ⟨rfl, _, rfl, ⟨(a99, c100), rfl⟩, hs.cutG 1 1⟩
                  · intro ρ w Γx Λx hs hu hp
                    have e112 : ρ 71 = .bool (decide (0 < x64)) := (hp 2 rfl).1
                    refine WL.move (v := .int .i64 x64) ((hu 3 rfl).trans h85_3) ?_ (hg := (wanted_of rfl rfl (bool_tr e112 hc97)).trans rfl)
                    exact WL.nil ⟨rfl, _, rfl, rfl, hs.cutG 0 0⟩
                  · intro ρ w Γx Λx hs hu hp
                    have e113 : ρ 74 = .int .i64 x64 := (hp 5 rfl).1
                    have e114 : ρ 71 = .bool (decide (0 < x64)) := (hp 2 rfl).1
                    refine WL.bin (v := .int .i64 x101) e113 rfl (ib_as ex101 (ib_sub _ _ _)) ?_ (hg := (wanted_of rfl rfl (bool_tr e114 hc97)).trans rfl)
                    exact WL.nil ⟨rfl, _, rfl, rfl, hs.cutG 0 0⟩
                  · intro ρ w Γx Λx hs hu hp
                    obtain ⟨⟨⟨a115, c116⟩, e117r⟩, hm118⟩ := hp 4 rfl
                    have e117 : ρ 73 = .slice a115 (x1.Weights).length c116 := e117r
                    rw [e117r] at hm118
                    have hs := hs.memo1 (it := vl (tSlice t_api_WeightEntry) x1.Weights (.slice a115 (x1.Weights).length c116)) (List.mem_append.2 (.inl (hm118 _ (List.mem_of_getElem? (i := 0) rfl))))
                    have e119 : ρ 75 = .int .i64 x101 := (hp 6 rfl).1
                    have e120 : ρ 71 = .bool (decide (0 < x64)) := (hp 2 rfl).1
                    refine WL.indexAddr hs 0 rfl UN34 TI59 e117 e119 hxx102 (fun ad103 hs => ?_) (hg := (wanted_of rfl rfl (bool_tr e120 hc97)).trans rfl)
                    have hs := hs.add (it := pl t_api_WeightEntry x102 ad103) fun ok hA => hA.get 0 rfl
                    exact WL.nil ⟨rfl, _, rfl, ⟨ad103, rfl⟩, hs.cutG 1 2⟩
                  · intro ρ w Γx Λx hs hu hp
                    obtain ⟨⟨ad121, e122r⟩, hm123⟩ := hp 7 rfl
                    have e122 : ρ 76 = .pointer (some ad121) := e122r
                    rw [e122r] at hm123
                    have hs := hs.memo1 (it := pl t_api_WeightEntry x102 ad121) (List.mem_append.2 (.inl (hm123 _ (List.mem_of_getElem? (i := 0) rfl))))
                    have e124 : ρ 71 = .bool (decide (0 < x64)) := (hp 2 rfl).1
                    refine WL.fieldAddrP (z := x102.Server) F_api_WeightEntry_Server hs 0 rfl e122 FA59_0 rfl (fun ad104 hs => ?_) (hg := (wanted_of rfl rfl (bool_tr e124 hc97)).trans rfl)
                    have hs := hs.add (it := pl (tInt .i64) x102.Server ad104) fun ok hA => hA.get 0 rfl
                    exact WL.nil ⟨rfl, _, rfl, ⟨ad104, rfl⟩, hs.cutG 1 2⟩
                  · intro ρ w Γx Λx hs hu hp
                    obtain ⟨⟨ad125, e126r⟩, hm127⟩ := hp 8 rfl
                    have e126 : ρ 77 = .pointer (some ad125) := e126r
                    rw [e126r] at hm127
                    have hs := hs.memo1 (it := pl (tInt .i64) x102.Server ad125) (List.mem_append.2 (.inl (hm127 _ (List.mem_of_getElem? (i := 0) rfl))))
                    have e128 : ρ 71 = .bool (decide (0 < x64)) := (hp 2 rfl).1
                    refine WL.loadP hs 0 rfl TI3 (.inr rfl) e126 (fun v105 hs => ?_) (hg := (wanted_of rfl rfl (bool_tr e128 hc97)).trans rfl)
                    obtain rfl := hs.int 0 rfl
                    exact WL.nil ⟨rfl, _, rfl, rfl, hs.cutG 0 2⟩
                  · intro ρ w Γx Λx hs hu hp
                    have e129 : ρ 71 = .bool (decide (0 < x64)) := (hp 2 rfl).1
                    refine WL.fieldAddr (m := 0) ((hu 4 rfl).trans h85_4) FA59_0 rfl ?_ (hg := (wanted_of rfl rfl (bool_tr e129 hc97)).trans rfl)
                    exact WL.nil ⟨rfl, _, rfl, rfl, hs.cutG 0 0⟩
                  · intro ρ w Γx Λx hs hu hp
                    have e130 : ρ 79 = .pointer (some ⟨g82, 0, none⟩) := (hp 10 rfl).1
                    have e131 : ρ 71 = .bool (decide (0 < x64)) := (hp 2 rfl).1
                    refine WL.loadF (z := x77.Server) F_api_WeightEntry_Server hs (Λx.length + 0) (getApp rfl) (Γx.length + 0) (getApp rfl) rfl TI3 (.inr rfl) e130 rfl (fun v106 hs => ?_) (hg := (wanted_of rfl rfl (bool_tr e131 hc97)).trans rfl)
                    obtain rfl := hs.int 0 rfl
                    exact WL.nil ⟨rfl, _, rfl, rfl, hs.cutG 0 1⟩
                  · intro ρ w Γx Λx hs hu hp
                    have e132 : ρ 78 = .int .i64 x102.Server := (hp 9 rfl).1
                    have e133 : ρ 80 = .int .i64 x77.Server := (hp 11 rfl).1
                    have e134 : ρ 71 = .bool (decide (0 < x64)) := (hp 2 rfl).1
                    refine WL.bin (v := .bool (decide (x77.Server ≤ x102.Server))) e132 e133 (ib_geq _ _ _) ?_ (hg := (wanted_of rfl rfl (bool_tr e134 hc97)).trans rfl)
                    exact WL.nil ⟨rfl, _, rfl, rfl, hs.cutG 0 0⟩
                  · intro ρ w Γx Λx hs hu hp
                    have e135 : ρ 71 = .bool (decide (0 < x64)) := (hp 2 rfl).1
                    have e136 : ρ 81 = .bool (decide (x77.Server ≤ x102.Server)) := (hp 12 rfl).1
                    refine WL.pickT (v := .bool (decide (x77.Server ≤ x102.Server))) (bool_tr e135 hc97) e136 ?_
                    exact WL.nil ⟨rfl, _, rfl, rfl, hs.cutG 0 0⟩
                  · intro ρ w hs hu137 hp
                    obtain ⟨⟨⟨⟨⟨⟨⟨⟨⟨⟨⟨⟨⟨⟨_, hp0_⟩, hp1_⟩, hp2_⟩, hp3_⟩, hp4_⟩, hp5_⟩, hp6_⟩, hp7_⟩, hp8_⟩, hp9_⟩, hp10_⟩, hp11_⟩, hp12_⟩, hp13_⟩ := hp
                    have hs : St ok (bz w0) w [pl (tInt .i64) x102.Server (adOf (ρ 77)), pl t_api_WeightEntry x102 (adOf (ρ 76)), vl (tSlice t_api_WeightEntry) x1.Weights (ρ 73), vl t_api_WeightEntry x77 (.agg cs80.toArray), vl t_api_Summary x1 (.agg cs3.toArray)] [blk g82 59 cs80, blk g6 36 cs3] := hs
                    have e138 : ρ 82 = .bool (decide (x77.Server ≤ x102.Server)) := hp13_
                    have e139 : ρ 81 = .bool (decide (x77.Server ≤ x102.Server)) := hp12_
                    have e140 : ρ 80 = .int .i64 x77.Server := hp11_
                    have e141 : ρ 79 = .pointer (some ⟨g82, 0, none⟩) := hp10_
                    have e142 : ρ 78 = .int .i64 x102.Server := hp9_
                    obtain ⟨ad143, e144⟩ := hp8_
                    have e144 : ρ 77 = .pointer (some ad143) := e144
                    try rw [e144] at hs
                    obtain ⟨ad145, e146⟩ := hp7_
                    have e146 : ρ 76 = .pointer (some ad145) := e146
                    try rw [e146] at hs
                    have e147 : ρ 75 = .int .i64 x101 := hp6_
                    have e148 : ρ 74 = .int .i64 x64 := hp5_
                    obtain ⟨⟨a149, c150⟩, e151⟩ := hp4_
                    have e151 : ρ 73 = .slice a149 (x1.Weights).length c150 := e151
                    try rw [e151] at hs
                    have e152 : ρ 72 = .pointer (some ⟨g6, 2, none⟩) := hp3_
                    have e153 : ρ 71 = .bool (decide (0 < x64)) := hp2_
                    have e154 : ρ 70 = .bool (decide (0 < x64)) := hp1_
                    have e155 : ρ 69 = .int .i64 x64 := hp0_
                    refine WA.done (by kernel_rfl) ?_
                    exact Jk93 (decide (x77.Server ≤ x102.Server)) _ _ ((hu137 1 rfl).trans h85_1) ((hu137 3 rfl).trans h85_3) e138 ((hs.mask [false, true]).pick [4]) hf
                · refine W.any (by kernel_rfl) 14 0 [true, true, true, true, true, true, true, true, true, true, true, true, true, true] rfl rfl (poAt [pv (.int .i64 x64), pv (.bool (decide (0 < x64))), pv (.bool (decide (0 < x64))), pv (undef), pv (undef), pv (undef), pv (undef), pv (undef), pv (undef), pv (undef), pv (undef), pv (undef), pv (undef), pv (.bool false)]) (Λ := [blk g82 59 cs80, blk g6 36 cs3]) hs (by kernel_rfl) (by kernel_rfl) (by kernel_rfl) ⟨⟨⟨⟨⟨⟨⟨⟨⟨⟨⟨⟨⟨⟨trivial, ?_⟩, ?_⟩, ?_⟩, ?_⟩, ?_⟩, ?_⟩, ?_⟩, ?_⟩, ?_⟩, ?_⟩, ?_⟩, ?_⟩, ?_⟩, ?_⟩ ?_
                  · intro ρ w Γx Λx hs hu hp
                    refine WL.move (v := .int .i64 x64) ((hu 3 rfl).trans h85_3) ?_
                    exact WL.nil ⟨rfl, _, rfl, rfl, hs.cutG 0 0⟩
                  · intro ρ w Γx Λx hs hu hp
                    have e156 : ρ 69 = .int .i64 x64 := (hp 0 rfl).1
                    refine WL.bin (v := .bool (decide (0 < x64))) e156 rfl (ib_gtr _ _ _) ?_
                    exact WL.nil ⟨rfl, _, rfl, rfl, hs.cutG 0 0⟩
                  · intro ρ w Γx Λx hs hu hp
                    have e157 : ρ 70 = .bool (decide (0 < x64)) := (hp 1 rfl).1
                    refine WL.move (v := .bool (decide (0 < x64))) e157 ?_
                    exact WL.nil ⟨rfl, _, rfl, rfl, hs.cutG 0 0⟩
                  · intro ρ w Γx Λx hs hu hp
                    have e158 : ρ 71 = .bool (decide (0 < x64)) := (hp 2 rfl).1
                    refine WL.pass ((wanted_of rfl rfl (bool_tr e158 hc97)).trans rfl) rfl ?_
                    exact WL.nil ⟨rfl, _, rfl, rfl, hs.cutG 0 0⟩
                  · intro ρ w Γx Λx hs hu hp
                    have e159 : ρ 72 = undef := (hp 3 rfl).1
                    have e160 : ρ 71 = .bool (decide (0 < x64)) := (hp 2 rfl).1
                    refine WL.pass ((wanted_of rfl rfl (bool_tr e160 hc97)).trans rfl) rfl ?_
                    exact WL.nil ⟨rfl, _, rfl, rfl, hs.cutG 0 0⟩
                  · intro ρ w Γx Λx hs hu hp
                    have e161 : ρ 71 = .bool (decide (0 < x64)) := (hp 2 rfl).1
                    refine WL.pass ((wanted_of rfl rfl (bool_tr e161 hc97)).trans rfl) rfl ?_
                    exact WL.nil ⟨rfl, _, rfl, rfl, hs.cutG 0 0⟩
                  · intro ρ w Γx Λx hs hu hp
                    have e162 : ρ 74 = undef := (hp 5 rfl).1
                    have e163 : ρ 71 = .bool (decide (0 < x64)) := (hp 2 rfl).1
                    refine WL.pass ((wanted_of rfl rfl (bool_tr e163 hc97)).trans rfl) rfl ?_
                    exact WL.nil ⟨rfl, _, rfl, rfl, hs.cutG 0 0⟩
                  · intro ρ w Γx Λx hs hu hp
                    have e164 : ρ 73 = undef := (hp 4 rfl).1
                    have e165 : ρ 75 = undef := (hp 6 rfl).1
                    have e166 : ρ 71 = .bool (decide (0 < x64)) := (hp 2 rfl).1
                    refine WL.pass ((wanted_of rfl rfl (bool_tr e166 hc97)).trans rfl) rfl ?_
                    exact WL.nil ⟨rfl, _, rfl, rfl, hs.cutG 0 0⟩
                  · intro ρ w Γx Λx hs hu hp
                    have e167 : ρ 76 = undef := (hp 7 rfl).1
                    have e168 : ρ 71 = .bool (decide (0 < x64)) := (hp 2 rfl).1
                    refine WL.pass ((wanted_of rfl rfl (bool_tr e168 hc97)).trans rfl) rfl ?_
                    exact WL.nil ⟨rfl, _, rfl, rfl, hs.cutG 0 0⟩
                  · intro ρ w Γx Λx hs hu hp
                    have e169 : ρ 77 = undef := (hp 8 rfl).1
                    have e170 : ρ 71 = .bool (decide (0 < x64)) := (hp 2 rfl).1
                    refine WL.pass ((wanted_of rfl rfl (bool_tr e170 hc97)).trans rfl) rfl ?_
                    exact WL.nil ⟨rfl, _, rfl, rfl, hs.cutG 0 0⟩
                  · intro ρ w Γx Λx hs hu hp
                    have e171 : ρ 71 = .bool (decide (0 < x64)) := (hp 2 rfl).1
                    refine WL.pass ((wanted_of rfl rfl (bool_tr e171 hc97)).trans rfl) rfl ?_
                    exact WL.nil ⟨rfl, _, rfl, rfl, hs.cutG 0 0⟩
                  · intro ρ w Γx Λx hs hu hp
                    have e172 : ρ 79 = undef := (hp 10 rfl).1
                    have e173 : ρ 71 = .bool (decide (0 < x64)) := (hp 2 rfl).1
                    refine WL.pass ((wanted_of rfl rfl (bool_tr e173 hc97)).trans rfl) rfl ?_
                    exact WL.nil ⟨rfl, _, rfl, rfl, hs.cutG 0 0⟩
                  · intro ρ w Γx Λx hs hu hp
                    have e174 : ρ 78 = undef := (hp 9 rfl).1
                    have e175 : ρ 80 = undef := (hp 11 rfl).1
                    have e176 : ρ 71 = .bool (decide (0 < x64)) := (hp 2 rfl).1
                    refine WL.pass ((wanted_of rfl rfl (bool_tr e176 hc97)).trans rfl) rfl ?_
                    exact WL.nil ⟨rfl, _, rfl, rfl, hs.cutG 0 0⟩
                  · intro ρ w Γx Λx hs hu hp
                    have e177 : ρ 71 = .bool (decide (0 < x64)) := (hp 2 rfl).1
                    have e178 : ρ 81 = undef := (hp 12 rfl).1
                    refine WL.pickF (v := .bool false) (bool_tr e177 hc97) rfl ?_
                    exact WL.nil ⟨rfl, _, rfl, rfl, hs.cutG 0 0⟩
                  · intro ρ w hs hu179 hp
                    obtain ⟨⟨⟨⟨⟨⟨⟨⟨⟨⟨⟨⟨⟨⟨_, hp0_⟩, hp1_⟩, hp2_⟩, hp3_⟩, hp4_⟩, hp5_⟩, hp6_⟩, hp7_⟩, hp8_⟩, hp9_⟩, hp10_⟩, hp11_⟩, hp12_⟩, hp13_⟩ := hp
                    have hs : St ok (bz w0) w [vl t_api_WeightEntry x77 (.agg cs80.toArray), vl t_api_Summary x1 (.agg cs3.toArray)] [blk g82 59 cs80, blk g6 36 cs3] := hs
                    have e180 : ρ 82 = .bool false := hp13_
                    have e181 : ρ 81 = undef := hp12_
                    have e182 : ρ 80 = undef := hp11_
                    have e183 : ρ 79 = undef := hp10_
                    have e184 : ρ 78 = undef := hp9_
                    have e185 : ρ 77 = undef := hp8_
                    have e186 : ρ 76 = undef := hp7_
                    have e187 : ρ 75 = undef := hp6_
                    have e188 : ρ 74 = undef := hp5_
                    have e189 : ρ 73 = undef := hp4_
                    have e190 : ρ 72 = undef := hp3_
                    have e191 : ρ 71 = .bool (decide (0 < x64)) := hp2_
                    have e192 : ρ 70 = .bool (decide (0 < x64)) := hp1_
                    have e193 : ρ 69 = .int .i64 x64 := hp0_
                    refine WA.done (by kernel_rfl) ?_
                    exact Jk93 false _ _ ((hu179 1 rfl).trans h85_1) ((hu179 3 rfl).trans h85_3) e180 ((hs.mask [false, true]).pick [1]) hf
            refine W.region ?_
            refine WL.fieldAddr (m := 0) rfl FA59_0 rfl ?_
            refine WL.loadF (z := x77.Server) F_api_WeightEntry_Server hs 0 rfl 0 rfl rfl TI3 (.inr rfl) rfl rfl (fun v194 hs => ?_)
            obtain rfl := hs.int 0 rfl
            obtain ⟨x195, hxx195, hf⟩ := bindE hf
            refine WL.call (vs := [.int .i64 x77.Server]) hs FN34 ⟨rfl, trivial⟩ (fun ok hA => esref06_Server.calls (x1 := x77.Server) hxx195) ?_
            rintro _ w hs
            refine WL.not rfl ?_
            refine WL.move (v := .bool (!x195)) rfl ?_
            rcases iteE hf with ⟨hc196, hf⟩ | ⟨hc196, hf⟩
            · refine WL.pass ((wanted_of rfl rfl (bool_tr rfl hc196)).trans rfl) rfl ?_
              refine WL.pass ((wanted_of rfl rfl (bool_tr rfl hc196)).trans rfl) rfl ?_
              refine WL.pass ((wanted_of rfl rfl (bool_tr rfl hc196)).trans rfl) rfl ?_
              refine WL.pickT (v := .bool true) (bool_tr rfl hc196) rfl ?_
              refine WL.move (v := .bool true) rfl ?_
              refine WL.pass ((wanted_of rfl rfl rfl).trans rfl) rfl ?_
              refine WL.pass ((wanted_of rfl rfl rfl).trans rfl) rfl ?_
              refine WL.pass ((wanted_of rfl rfl rfl).trans rfl) rfl ?_
              refine WL.pickT (v := .bool true) rfl rfl ?_
              refine WL.move (v := .bool true) rfl ?_
              refine WL.pass ((wanted_of rfl rfl rfl).trans rfl) rfl ?_
              refine WL.pass ((wanted_of rfl rfl rfl).trans rfl) rfl ?_
              refine WL.pass ((wanted_of rfl rfl rfl).trans rfl) rfl ?_
              refine WL.pickT (v := .bool true) rfl rfl ?_
              refine WL.move (v := .bool true) rfl ?_
              refine WL.pass ((wanted_of rfl rfl rfl).trans rfl) rfl ?_
              refine WL.pass ((wanted_of rfl rfl rfl).trans rfl) rfl ?_
              refine WL.pass ((wanted_of rfl rfl rfl).trans rfl) rfl ?_
              refine WL.pickT (v := .bool true) rfl rfl ?_
              refine WL.move (v := .bool true) rfl ?_
              refine WL.pass ((wanted_of rfl rfl rfl).trans rfl) rfl ?_
              refine WL.pass ((wanted_of rfl rfl rfl).trans rfl) rfl ?_
              refine WL.pass ((wanted_of rfl rfl rfl).trans rfl) rfl ?_
              refine WL.pickT (v := .bool true) rfl rfl ?_
              refine WL.nil ?_
              exact Jk87 true _ _ h63_1 h63_3 rfl rfl ((hs.mask [true, true]).pick [1, 5]) hf
            · refine WL.fieldAddr (m := 1) rfl FA59_1 rfl ?_ (hg := (wanted_of rfl rfl (bool_tr rfl hc196)).trans rfl)
              refine WL.loadF (z := x77.Weight) F_api_WeightEntry_Weight hs 0 rfl 1 rfl rfl TI3 (.inr rfl) rfl rfl (fun v197 hs => ?_) (hg := (wanted_of rfl rfl (bool_tr rfl hc196)).trans rfl)
              obtain rfl := hs.int 0 rfl
              refine WL.bin (v := .bool (decide (x77.Weight < 1))) rfl rfl (ib_lss _ _ _) ?_ (hg := (wanted_of rfl rfl (bool_tr rfl hc196)).trans rfl)
              refine WL.pickF (v := .bool (decide (x77.Weight < 1))) (bool_tr rfl hc196) rfl ?_
              refine WL.move (v := .bool (decide (x77.Weight < 1))) rfl ?_
              rcases iteE hf with ⟨hc198, hf⟩ | ⟨hc198, hf⟩
              · refine WL.pass ((wanted_of rfl rfl (bool_tr rfl hc198)).trans rfl) rfl ?_
                refine WL.pass ((wanted_of rfl rfl (bool_tr rfl hc198)).trans rfl) rfl ?_
                refine WL.pass ((wanted_of rfl rfl (bool_tr rfl hc198)).trans rfl) rfl ?_
                refine WL.pickT (v := .bool true) (bool_tr rfl hc198) rfl ?_
                refine WL.move (v := .bool true) rfl ?_
                refine WL.pass ((wanted_of rfl rfl rfl).trans rfl) rfl ?_
                refine WL.pass ((wanted_of rfl rfl rfl).trans rfl) rfl ?_
                refine WL.pass ((wanted_of rfl rfl rfl).trans rfl) rfl ?_
                refine WL.pickT (v := .bool true) rfl rfl ?_
                refine WL.move (v := .bool true) rfl ?_
                refine WL.pass ((wanted_of rfl rfl rfl).trans rfl) rfl ?_
                refine WL.pass ((wanted_of rfl rfl rfl).trans rfl) rfl ?_
                refine WL.pass ((wanted_of rfl rfl rfl).trans rfl) rfl ?_
                refine WL.pickT (v := .bool true) rfl rfl ?_
                refine WL.move (v := .bool true) rfl ?_
                refine WL.pass ((wanted_of rfl rfl rfl).trans rfl) rfl ?_
                refine WL.pass ((wanted_of rfl rfl rfl).trans rfl) rfl ?_
                refine WL.pass ((wanted_of rfl rfl rfl).trans rfl) rfl ?_
                refine WL.pickT (v := .bool true) rfl rfl ?_
                refine WL.nil ?_
                exact Jk87 true _ _ h63_1 h63_3 rfl rfl ((hs.mask [true, true]).pick [2, 6]) hf
              · refine WL.fieldAddr (m := 1) rfl FA59_1 rfl ?_ (hg := (wanted_of rfl rfl (bool_tr rfl hc198)).trans rfl)
                refine WL.loadF (z := x77.Weight) F_api_WeightEntry_Weight hs 0 rfl 2 rfl rfl TI3 (.inr rfl) rfl rfl (fun v199 hs => ?_) (hg := (wanted_of rfl rfl (bool_tr rfl hc198)).trans rfl)
                obtain rfl := hs.int 0 rfl
                refine WL.bin (v := .bool (decide (9 < x77.Weight))) rfl rfl (ib_gtr _ _ _) ?_ (hg := (wanted_of rfl rfl (bool_tr rfl hc198)).trans rfl)
                refine WL.pickF (v := .bool (decide (9 < x77.Weight))) (bool_tr rfl hc198) rfl ?_
                refine WL.move (v := .bool (decide (9 < x77.Weight))) rfl ?_
                rcases iteE hf with ⟨hc200, hf⟩ | ⟨hc200, hf⟩
                · refine WL.pass ((wanted_of rfl rfl (bool_tr rfl hc200)).trans rfl) rfl ?_
                  refine WL.pass ((wanted_of rfl rfl (bool_tr rfl hc200)).trans rfl) rfl ?_
                  refine WL.pass ((wanted_of rfl rfl (bool_tr rfl hc200)).trans rfl) rfl ?_
                  refine WL.pickT (v := .bool true) (bool_tr rfl hc200) rfl ?_
                  refine WL.move (v := .bool true) rfl ?_
                  refine WL.pass ((wanted_of rfl rfl rfl).trans rfl) rfl ?_
                  refine WL.pass ((wanted_of rfl rfl rfl).trans rfl) rfl ?_
                  refine WL.pass ((wanted_of rfl rfl rfl).trans rfl) rfl ?_
                  refine WL.pickT (v := .bool true) rfl rfl ?_
                  refine WL.move (v := .bool true) rfl ?_
                  refine WL.pass ((wanted_of rfl rfl rfl).trans rfl) rfl ?_
                  refine WL.pass ((wanted_of rfl rfl rfl).trans rfl) rfl ?_
                  refine WL.pass ((wanted_of rfl rfl rfl).trans rfl) rfl ?_
                  refine WL.pickT (v := .bool true) rfl rfl ?_
                  refine WL.nil ?_
                  exact Jk87 true _ _ h63_1 h63_3 rfl rfl ((hs.mask [true, true]).pick [3, 7]) hf
                · refine WL.fieldAddr (m := 2) rfl FA59_2 rfl ?_ (hg := (wanted_of rfl rfl (bool_tr rfl hc200)).trans rfl)
                  refine WL.loadF (z := x77.Version) F_api_WeightEntry_Version hs 0 rfl 3 rfl rfl TI3 (.inr rfl) rfl rfl (fun v201 hs => ?_) (hg := (wanted_of rfl rfl (bool_tr rfl hc200)).trans rfl)
                  obtain rfl := hs.int 0 rfl
                  refine WL.bin (v := .bool (decide (x77.Version < 0))) rfl rfl (ib_lss _ _ _) ?_ (hg := (wanted_of rfl rfl (bool_tr rfl hc200)).trans rfl)
                  refine WL.pickF (v := .bool (decide (x77.Version < 0))) (bool_tr rfl hc200) rfl ?_
                  refine WL.move (v := .bool (decide (x77.Version < 0))) rfl ?_
                  rcases iteE hf with ⟨hc202, hf⟩ | ⟨hc202, hf⟩
                  · refine WL.pass ((wanted_of rfl rfl (bool_tr rfl hc202)).trans rfl) rfl ?_
                    refine WL.pass ((wanted_of rfl rfl (bool_tr rfl hc202)).trans rfl) rfl ?_
                    refine WL.pass ((wanted_of rfl rfl (bool_tr rfl hc202)).trans rfl) rfl ?_
                    refine WL.pickT (v := .bool true) (bool_tr rfl hc202) rfl ?_
                    refine WL.move (v := .bool true) rfl ?_
                    refine WL.pass ((wanted_of rfl rfl rfl).trans rfl) rfl ?_
                    refine WL.pass ((wanted_of rfl rfl rfl).trans rfl) rfl ?_
                    refine WL.pass ((wanted_of rfl rfl rfl).trans rfl) rfl ?_
                    refine WL.pickT (v := .bool true) rfl rfl ?_
                    refine WL.nil ?_
                    exact Jk87 true _ _ h63_1 h63_3 rfl rfl ((hs.mask [true, true]).pick [4, 8]) hf
                  · refine WL.fieldAddr (m := 3) rfl FA59_3 rfl ?_ (hg := (wanted_of rfl rfl (bool_tr rfl hc202)).trans rfl)
                    refine WL.loadF (z := x77.Admin) F_api_WeightEntry_Admin hs 0 rfl 4 rfl rfl TI3 (.inr rfl) rfl rfl (fun v203 hs => ?_) (hg := (wanted_of rfl rfl (bool_tr rfl hc202)).trans rfl)
                    obtain rfl := hs.int 0 rfl
                    refine WL.bin (v := .bool (decide (x77.Admin < 0))) rfl rfl (ib_lss _ _ _) ?_ (hg := (wanted_of rfl rfl (bool_tr rfl hc202)).trans rfl)
                    refine WL.pickF (v := .bool (decide (x77.Admin < 0))) (bool_tr rfl hc202) rfl ?_
                    refine WL.move (v := .bool (decide (x77.Admin < 0))) rfl ?_
                    rcases iteE hf with ⟨hc204, hf⟩ | ⟨hc204, hf⟩
                    · refine WL.pass ((wanted_of rfl rfl (bool_tr rfl hc204)).trans rfl) rfl ?_
                      refine WL.pass ((wanted_of rfl rfl (bool_tr rfl hc204)).trans rfl) rfl ?_
                      refine WL.pass ((wanted_of rfl rfl (bool_tr rfl hc204)).trans rfl) rfl ?_
                      refine WL.pickT (v := .bool true) (bool_tr rfl hc204) rfl ?_
                      refine WL.nil ?_
                      exact Jk87 true _ _ h63_1 h63_3 rfl rfl ((hs.mask [true, true]).pick [5, 9]) hf
                    · refine WL.fieldAddr (m := 4) rfl FA59_4 rfl ?_ (hg := (wanted_of rfl rfl (bool_tr rfl hc204)).trans rfl)
                      refine WL.loadF (z := x77.Number) F_api_WeightEntry_Number hs 0 rfl 5 rfl rfl TI3 (.inr rfl) rfl rfl (fun v205 hs => ?_) (hg := (wanted_of rfl rfl (bool_tr rfl hc204)).trans rfl)
                      obtain rfl := hs.int 0 rfl
                      refine WL.bin (v := .bool (decide (x77.Number < 0))) rfl rfl (ib_lss _ _ _) ?_ (hg := (wanted_of rfl rfl (bool_tr rfl hc204)).trans rfl)
                      refine WL.pickF (v := .bool (decide (x77.Number < 0))) (bool_tr rfl hc204) rfl ?_
                      refine WL.nil ?_
                      exact Jk87 (decide (x77.Number < 0)) _ _ h63_1 h63_3 rfl rfl ((hs.mask [true, true]).pick [6, 10]) hf
          · refine W.cond_false (bool_tr rfl hc71) ?_
            refine W.exit ?_
            have hr := Option.some.inj hf; subst hr
            have hr := hbbs65 _ rfl; subst hr
            have hf := hfs65
            exact Jk22  _ _ h63_1 ((hs.mask [true]).pick [1]) hf
      refine W.region ?_
      refine WL.fieldAddr (m := 0) h9_1 FA36_0 rfl ?_
      refine WL.loadF (z := x1.Joined) F_api_Summary_Joined hs 0 rfl 0 rfl rfl TI33 (.inr rfl) rfl rfl (fun v207 hs => ?_)
      obtain ⟨a208, c209, rfl⟩ := hs.slice 0 rfl
      obtain ⟨x210, hxx210, hf⟩ := bindE hf
      refine WL.call (vs := [.slice a208 (x1.Joined).length c209]) hs FN33 ⟨rfl, trivial⟩ (fun ok hA => esref10_Ascending.calls (x1 := x1.Joined) hxx210 (hA.get 0 rfl)) ?_
      rintro _ w hs
      refine WL.not rfl ?_
      refine WL.move (v := .bool (!x210)) rfl ?_
      rcases iteE hf with ⟨hc211, hf⟩ | ⟨hc211, hf⟩
      · refine WL.pass ((wanted_of rfl rfl (bool_tr rfl hc211)).trans rfl) rfl ?_
        refine WL.pass ((wanted_of rfl rfl (bool_tr rfl hc211)).trans rfl) rfl ?_
        refine WL.pass ((wanted_of rfl rfl (bool_tr rfl hc211)).trans rfl) rfl ?_
        refine WL.pass ((wanted_of rfl rfl (bool_tr rfl hc211)).trans rfl) rfl ?_
        refine WL.pickT (v := .bool true) (bool_tr rfl hc211) rfl ?_
        refine WL.assign (v := .bool true) rfl ?_
        refine WL.nil ?_
        exact Jk17 true _ _ h9_1 rfl ((hs.mask [true]).pick [1]) hf
      · refine WL.fieldAddr (m := 1) h9_1 FA36_1 rfl ?_ (hg := (wanted_of rfl rfl (bool_tr rfl hc211)).trans rfl)
        refine WL.loadF (z := x1.Removed) F_api_Summary_Removed hs 0 rfl 1 rfl rfl TI33 (.inr rfl) rfl rfl (fun v212 hs => ?_) (hg := (wanted_of rfl rfl (bool_tr rfl hc211)).trans rfl)
        obtain ⟨a213, c214, rfl⟩ := hs.slice 0 rfl
        obtain ⟨x215, hxx215, hf⟩ := bindE hf
        refine WL.call (vs := [.slice a213 (x1.Removed).length c214]) hs FN33 ⟨rfl, trivial⟩ (fun ok hA => esref10_Ascending.calls (x1 := x1.Removed) hxx215 (hA.get 0 rfl)) ?_ (hg := (wanted_of rfl rfl (bool_tr rfl hc211)).trans rfl)
        rintro _ w hs
        refine WL.not rfl ?_ (hg := (wanted_of rfl rfl (bool_tr rfl hc211)).trans rfl)
        refine WL.pickF (v := .bool (!x215)) (bool_tr rfl hc211) rfl ?_
        refine WL.assign (v := .bool (!x215)) rfl ?_
        refine WL.nil ?_
        exact Jk17 (!x215) _ _ h9_1 rfl ((hs.mask [true]).pick [2]) hf
  refine W.region ?_
  refine WL.fieldAddr (m := 0) rfl FA36_0 rfl ?_
  refine WL.loadF (z := x1.Joined) F_api_Summary_Joined hs 0 rfl 0 rfl rfl TI33 (.inr rfl) rfl rfl (fun v216 hs => ?_)
  obtain ⟨a217, c218, rfl⟩ := hs.slice 0 rfl
  obtain ⟨x219, hxx219, hf⟩ := bindE hf
  refine WL.call (vs := [.slice a217 (x1.Joined).length c218]) hs FN32 ⟨rfl, trivial⟩ (fun ok hA => esref10_servers.calls (x1 := x1.Joined) hxx219 (hA.get 0 rfl)) ?_
  rintro _ w hs
  refine WL.not rfl ?_
  refine WL.move (v := .bool (!x219)) rfl ?_
  rcases iteE hf with ⟨hc220, hf⟩ | ⟨hc220, hf⟩
  · refine WL.pass ((wanted_of rfl rfl (bool_tr rfl hc220)).trans rfl) rfl ?_
    refine WL.pass ((wanted_of rfl rfl (bool_tr rfl hc220)).trans rfl) rfl ?_
    refine WL.pass ((wanted_of rfl rfl (bool_tr rfl hc220)).trans rfl) rfl ?_
    refine WL.pass ((wanted_of rfl rfl (bool_tr rfl hc220)).trans rfl) rfl ?_
    refine WL.pickT (v := .bool true) (bool_tr rfl hc220) rfl ?_
    refine WL.assign (v := .bool true) rfl ?_
    refine WL.nil ?_
    exact Jk11 true _ _ rfl rfl ((hs.mask [true]).pick [1]) hf
  · refine WL.fieldAddr (m := 1) rfl FA36_1 rfl ?_ (hg := (wanted_of rfl rfl (bool_tr rfl hc220)).trans rfl)
    refine WL.loadF (z := x1.Removed) F_api_Summary_Removed hs 0 rfl 1 rfl rfl TI33 (.inr rfl) rfl rfl (fun v221 hs => ?_) (hg := (wanted_of rfl rfl (bool_tr rfl hc220)).trans rfl)
    obtain ⟨a222, c223, rfl⟩ := hs.slice 0 rfl
    obtain ⟨x224, hxx224, hf⟩ := bindE hf
    refine WL.call (vs := [.slice a222 (x1.Removed).length c223]) hs FN32 ⟨rfl, trivial⟩ (fun ok hA => esref10_servers.calls (x1 := x1.Removed) hxx224 (hA.get 0 rfl)) ?_ (hg := (wanted_of rfl rfl (bool_tr rfl hc220)).trans rfl)
    rintro _ w hs
    refine WL.not rfl ?_ (hg := (wanted_of rfl rfl (bool_tr rfl hc220)).trans rfl)
    refine WL.pickF (v := .bool (!x224)) (bool_tr rfl hc220) rfl ?_
    refine WL.assign (v := .bool (!x224)) rfl ?_
    refine WL.nil ?_
    exact Jk11 (!x224) _ _ rfl rfl ((hs.mask [true]).pick [2]) hf
end Go.Proofs.YthfoljpjhegkmaaDoor
