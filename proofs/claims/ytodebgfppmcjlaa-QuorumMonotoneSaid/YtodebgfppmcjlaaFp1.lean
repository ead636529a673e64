import Derived.Test.YtodebgfppmcjlaaFh
set_option linter.unusedVariables false
set_option linter.unusedSimpArgs false
namespace Go.Proofs.Ytodebgfppmcjlaa
open Go Go.RowKit Go.Proofs.YtodebgfppmcjlaaL
set_option maxRecDepth 100000
set_option maxHeartbeats 4000000
/-! elasticstore/quorum.ValidateRule: function 12 -/
theorem quorum_ValidateRule.calls {ok : Nat → Prop} {w0 : World} {x1 : api_Rule} {v2 : Value} {r : Int} (hf : quorum_ValidateRule x1 = some r) (i0 : (vl t_api_Rule x1 v2).holds ok w0) :
    Calls Try.prog 12 #[v2] w0 fun e w' => ∃ v, e = .returned v ∧ ∃ y : Unit, v = .int .i64 r ∧ St ok (bz w0) w' [] [] := by
  unfold quorum_ValidateRule at hf
  refine calls_of_W (fn := Try.f12) (N := 42) Try.func12 rfl Try.ntmps12 rfl ?_
  have hs : St ok (bz w0) w0 [vl t_api_Rule x1 v2] [] := St.init (All.cons i0 All.nil)
  clear i0
  obtain ⟨cs3, hl4, rfl⟩ := hs.aggv (n := 3) 0 rfl rfl rfl
  refine W.seqK fun K5 hK5 => ?_
  refine W.region ?_
  refine WL.box (vs := cs3) hs rfl rfl (fun g6 w hs => ?_)
  refine WL.assign (v := .int .i64 0) rfl ?_
  refine WL.nil ?_
  refine hK5 _ _ ?_
  refine W.seqK fun K7 hK7 => ?_
  have Jk11 : ∀ (x9 : Bool) (x10 : Bool) (ρ : Env) (w : World), ρ 1 = .pointer (some ⟨g6, 0, none⟩) → ρ 3 = .bool x9 → ρ 4 = .bool x10 → St ok (bz w0) w [vl t_api_Rule x1 (.agg cs3.toArray)] [blk g6 23 cs3] → quorum_ValidateRule.j4 x1 x9 x10 = some r → K7 ρ w := by
    intro x9 x10 ρ w h8_1 h8_3 h8_4 hs hf
    refine hK7 _ _ ?_
    unfold quorum_ValidateRule.j4 at hf
    refine W.seqK fun K12 hK12 => ?_
    have Jk16 : ∀ (x14 : Bool) (x15 : Bool) (ρ : Env) (w : World), ρ 3 = .bool x14 → ρ 4 = .bool x15 → St ok (bz w0) w [] [] → quorum_ValidateRule.j2 x14 x15 = some r → K12 ρ w := by
      intro x14 x15 ρ w h13_3 h13_4 hs hf
      refine hK12 _ _ ?_
      unfold quorum_ValidateRule.j2 at hf
      refine W.seqK fun K17 hK17 => ?_
      refine W.seqK fun K18 hK18 => ?_
      have Jk21 : ∀ (x20 : Bool) (ρ : Env) (w : World), ρ 41 = .bool x20 → St ok (bz w0) w [] [] → quorum_ValidateRule.j1 x20 = some r → K18 ρ w := by
        intro x20 ρ w h19_41 hs hf
        refine hK18 _ _ ?_
        unfold quorum_ValidateRule.j1 at hf
        rcases iteE hf with ⟨hc22, hf⟩ | ⟨hc22, hf⟩
        · refine W.cond_true (bool_tr h19_41 hc22) ?_
          refine W.seqK fun K23 hK23 => ?_
          refine W.region ?_
          refine WL.assign (v := .int .i64 9) rfl ?_
          refine WL.nil ?_
          refine hK23 _ _ ?_
          refine W.ret ?_
          have hr := Option.some.inj hf; subst hr
          exact ⟨_, resOk_one rfl rfl, (), rfl, (hs.mask []).pick []⟩
        · refine W.cond_false (bool_tr h19_41 hc22) ?_
          refine W.skip ?_
          refine hK17 _ _ ?_
          refine W.seqK fun K24 hK24 => ?_
          refine W.region ?_
          refine WL.assign (v := .int .i64 0) rfl ?_
          refine WL.nil ?_
          refine hK24 _ _ ?_
          refine W.ret ?_
          have hr := Option.some.inj hf; subst hr
          exact ⟨_, resOk_one rfl rfl, (), rfl, (hs.mask []).pick []⟩
      refine W.region ?_
      refine WL.move (v := .bool x14) h13_3 ?_
      refine WL.not rfl ?_
      refine WL.move (v := .bool (!x14)) rfl ?_
      rcases iteE hf with ⟨hc25, hf⟩ | ⟨hc25, hf⟩
      · refine WL.pass ((wanted_of rfl rfl (bool_tr rfl hc25)).trans rfl) rfl ?_
        refine WL.pass ((wanted_of rfl rfl (bool_tr rfl hc25)).trans rfl) rfl ?_
        refine WL.pickT (v := .bool true) (bool_tr rfl hc25) rfl ?_
        refine WL.nil ?_
        exact Jk21 true _ _ rfl ((hs.mask []).pick []) hf
      · refine WL.move (v := .bool x15) h13_4 ?_ (hg := (wanted_of rfl rfl (bool_tr rfl hc25)).trans rfl)
        refine WL.not rfl ?_ (hg := (wanted_of rfl rfl (bool_tr rfl hc25)).trans rfl)
        refine WL.pickF (v := .bool (!x15)) (bool_tr rfl hc25) rfl ?_
        refine WL.nil ?_
        exact Jk21 (!x15) _ _ rfl ((hs.mask []).pick []) hf
    refine W.seqK fun K26 hK26 => ?_
    refine W.region ?_
    refine WL.fieldAddr (m := 0) h8_1 FA23_0 rfl ?_
    refine WL.loadF (z := x1.Kind) F_api_Rule_Kind hs 0 rfl 0 rfl rfl TI3 (.inr rfl) rfl rfl (fun v27 hs => ?_)
    obtain rfl := hs.int 0 rfl
    refine WL.nil ?_
    refine hK26 _ _ ?_
    refine W.block ?_
    refine W.seqK fun K28 hK28 => ?_
    have Jk31 : ∀ (x30 : Bool) (ρ : Env) (w : World), ρ 1 = .pointer (some ⟨g6, 0, none⟩) → ρ 3 = .bool x9 → ρ 4 = .bool x10 → ρ 12 = .int .i64 x1.Kind → ρ 13 = .bool x30 → St ok (bz w0) w [vl t_api_Rule x1 (.agg cs3.toArray)] [blk g6 23 cs3] → quorum_ValidateRule.j3 x1 x9 x10 x30 = some r → K28 ρ w := by
      intro x30 ρ w h29_1 h29_3 h29_4 h29_12 h29_13 hs hf
      refine hK28 _ _ ?_
      unfold quorum_ValidateRule.j3 at hf
      rcases iteE hf with ⟨hc32, hf⟩ | ⟨hc32, hf⟩
      · refine W.cond_true (bool_tr h29_13 hc32) ?_
        refine W.skip ?_
        exact Jk16 x9 x10 _ _ h29_3 h29_4 ((hs.mask []).pick []) hf
      · refine W.cond_false (bool_tr h29_13 hc32) ?_
        refine W.seqK fun K33 hK33 => ?_
        refine W.region ?_
        refine WL.bin (v := .bool (x1.Kind == 3)) h29_12 rfl (ib_eql _ _ _) ?_
        refine WL.assign (v := .bool (x1.Kind == 3)) rfl ?_
        refine WL.nil ?_
        refine hK33 _ _ ?_
        rcases iteE hf with ⟨hc34, hf⟩ | ⟨hc34, hf⟩
        · refine W.cond_true (bool_tr rfl hc34) ?_
          refine W.region ?_
          refine WL.fieldAddr (m := 1) h29_1 FA23_1 rfl ?_
          refine WL.loadF (z := x1.Columns) F_api_Rule_Columns hs 0 rfl 0 rfl rfl TI3 (.inr rfl) rfl rfl (fun v35 hs => ?_)
          obtain rfl := hs.int 0 rfl
          refine WL.bin (v := .bool (decide (1 ≤ x1.Columns))) rfl rfl (ib_geq _ _ _) ?_
          refine WL.move (v := .bool (decide (1 ≤ x1.Columns))) rfl ?_
          rcases iteE hf with ⟨hc36, hf⟩ | ⟨hc36, hf⟩
          · refine WL.fieldAddr (m := 1) h29_1 FA23_1 rfl ?_ (hg := (wanted_of rfl rfl (bool_tr rfl hc36)).trans rfl)
            refine WL.loadF (z := x1.Columns) F_api_Rule_Columns hs 0 rfl 1 rfl rfl TI3 (.inr rfl) rfl rfl (fun v37 hs => ?_) (hg := (wanted_of rfl rfl (bool_tr rfl hc36)).trans rfl)
            obtain rfl := hs.int 0 rfl
            refine WL.bin (v := .bool (decide (x1.Columns ≤ 12))) rfl rfl (ib_leq _ _ _) ?_ (hg := (wanted_of rfl rfl (bool_tr rfl hc36)).trans rfl)
            refine WL.pickT (v := .bool (decide (x1.Columns ≤ 12))) (bool_tr rfl hc36) rfl ?_
            refine WL.assign (v := .bool (decide (x1.Columns ≤ 12))) rfl ?_
            refine WL.nil ?_
            exact Jk16 (decide (x1.Columns ≤ 12)) x10 _ _ rfl h29_4 ((hs.mask []).pick []) hf
          · refine WL.pass ((wanted_of rfl rfl (bool_tr rfl hc36)).trans rfl) rfl ?_
            refine WL.pass ((wanted_of rfl rfl (bool_tr rfl hc36)).trans rfl) rfl ?_
            refine WL.pass ((wanted_of rfl rfl (bool_tr rfl hc36)).trans rfl) rfl ?_
            refine WL.pickF (v := .bool false) (bool_tr rfl hc36) rfl ?_
            refine WL.assign (v := .bool false) rfl ?_
            refine WL.nil ?_
            exact Jk16 false x10 _ _ rfl h29_4 ((hs.mask []).pick []) hf
        · refine W.cond_false (bool_tr rfl hc34) ?_
          refine W.seqK fun K38 hK38 => ?_
          refine W.region ?_
          refine WL.bin (v := .bool (x1.Kind == 4)) h29_12 rfl (ib_eql _ _ _) ?_
          refine WL.assign (v := .bool (x1.Kind == 4)) rfl ?_
          refine WL.nil ?_
          refine hK38 _ _ ?_
          rcases iteE hf with ⟨hc39, hf⟩ | ⟨hc39, hf⟩
          · refine W.cond_true (bool_tr rfl hc39) ?_
            refine W.region ?_
            refine WL.fieldAddr (m := 2) h29_1 FA23_2 rfl ?_
            refine WL.loadF (z := x1.Faulty) F_api_Rule_Faulty hs 0 rfl 0 rfl rfl TI3 (.inr rfl) rfl rfl (fun v40 hs => ?_)
            obtain rfl := hs.int 0 rfl
            refine WL.bin (v := .bool (decide (0 ≤ x1.Faulty))) rfl rfl (ib_geq _ _ _) ?_
            refine WL.move (v := .bool (decide (0 ≤ x1.Faulty))) rfl ?_
            rcases iteE hf with ⟨hc41, hf⟩ | ⟨hc41, hf⟩
            · refine WL.fieldAddr (m := 2) h29_1 FA23_2 rfl ?_ (hg := (wanted_of rfl rfl (bool_tr rfl hc41)).trans rfl)
              refine WL.loadF (z := x1.Faulty) F_api_Rule_Faulty hs 0 rfl 1 rfl rfl TI3 (.inr rfl) rfl rfl (fun v42 hs => ?_) (hg := (wanted_of rfl rfl (bool_tr rfl hc41)).trans rfl)
              obtain rfl := hs.int 0 rfl
              refine WL.bin (v := .bool (decide (x1.Faulty ≤ 12))) rfl rfl (ib_leq _ _ _) ?_ (hg := (wanted_of rfl rfl (bool_tr rfl hc41)).trans rfl)
              refine WL.pickT (v := .bool (decide (x1.Faulty ≤ 12))) (bool_tr rfl hc41) rfl ?_
              refine WL.assign (v := .bool (decide (x1.Faulty ≤ 12))) rfl ?_
              refine WL.nil ?_
              exact Jk16 x9 (decide (x1.Faulty ≤ 12)) _ _ h29_3 rfl ((hs.mask []).pick []) hf
            · refine WL.pass ((wanted_of rfl rfl (bool_tr rfl hc41)).trans rfl) rfl ?_
              refine WL.pass ((wanted_of rfl rfl (bool_tr rfl hc41)).trans rfl) rfl ?_
              refine WL.pass ((wanted_of rfl rfl (bool_tr rfl hc41)).trans rfl) rfl ?_
              refine WL.pickF (v := .bool false) (bool_tr rfl hc41) rfl ?_
              refine WL.assign (v := .bool false) rfl ?_
              refine WL.nil ?_
              exact Jk16 x9 false _ _ h29_3 rfl ((hs.mask []).pick []) hf
          · refine W.cond_false (bool_tr rfl hc39) ?_
            refine W.seqK fun K43 hK43 => ?_
            refine W.region ?_
            refine WL.assign (v := .int .i64 10) rfl ?_
            refine WL.nil ?_
            refine hK43 _ _ ?_
            refine W.ret ?_
            have hr := Option.some.inj hf; subst hr
            exact ⟨_, resOk_one rfl rfl, (), rfl, (hs.mask []).pick []⟩
    refine W.seqK fun K44 hK44 => ?_
    refine W.region ?_
    refine WL.bin (v := .bool (x1.Kind == 1)) rfl rfl (ib_eql _ _ _) ?_
    refine WL.assign (v := .bool (x1.Kind == 1)) rfl ?_
    refine WL.nil ?_
    refine hK44 _ _ ?_
    rcases iteE hf with ⟨hc45, hf⟩ | ⟨hc45, hf⟩
    · refine W.cond_true (bool_tr rfl hc45) ?_
      refine W.skip ?_
      exact Jk31 true _ _ h8_1 h8_3 h8_4 rfl (bool_tr rfl hc45) ((hs.mask [true]).pick [1]) hf
    · refine W.cond_false (bool_tr rfl hc45) ?_
      refine W.region ?_
      refine WL.bin (v := .bool (x1.Kind == 2)) rfl rfl (ib_eql _ _ _) ?_
      refine WL.assign (v := .bool (x1.Kind == 2)) rfl ?_
      refine WL.nil ?_
      exact Jk31 (x1.Kind == 2) _ _ h8_1 h8_3 h8_4 rfl rfl ((hs.mask [true]).pick [1]) hf
  refine W.any (by kernel_rfl) 0 8 [false, false, false, false, false, false, false, false] rfl rfl (poAt []) (Λ := [blk g6 23 cs3]) hs (by kernel_rfl) (by kernel_rfl) (by kernel_rfl) trivial ?_
  · intro ρ w hs hu46 hp
    have hs : St ok (bz w0) w [vl t_api_Rule x1 (.agg cs3.toArray)] [blk g6 23 cs3] := hs
    refine WA.step [0, 3] (by kernel_rfl) (by simp) ⟨?_, ?_, trivial⟩
    · refine WL.fieldAddr (m := 1) (hu46 1 rfl) FA23_1 rfl ?_
      refine WL.nil ⟨rfl, _, rfl, ?_⟩
      refine WA.step [1, 3] (by kernel_rfl) (by simp) ⟨?_, ?_, trivial⟩
      · refine WL.loadF (z := x1.Columns) F_api_Rule_Columns hs 0 rfl 0 rfl rfl TI3 (.inr rfl) rfl rfl (fun v47 hs => ?_)
        obtain rfl := hs.int 0 rfl
        refine WL.nil ⟨rfl, _, rfl, ?_⟩
        refine WA.step [2, 3] (by kernel_rfl) (by simp) ⟨?_, ?_, trivial⟩
        · refine WL.bin (v := .bool (x1.Columns == 0)) rfl rfl (ib_eql _ _ _) ?_
          refine WL.nil ⟨rfl, _, rfl, ?_⟩
          refine WA.step [3, 6] (by kernel_rfl) (by simp) ⟨?_, ?_, trivial⟩
          · refine WL.fieldAddr (m := 2) (hu46 1 rfl) FA23_2 rfl ?_
            refine WL.nil ⟨rfl, _, rfl, ?_⟩
            refine WA.step [4, 6] (by kernel_rfl) (by simp) ⟨?_, ?_, trivial⟩
            · refine WL.loadF (z := x1.Faulty) F_api_Rule_Faulty hs 0 rfl 1 rfl rfl TI3 (.inr rfl) rfl rfl (fun v48 hs => ?_)
              obtain rfl := hs.int 0 rfl
              refine WL.nil ⟨rfl, _, rfl, ?_⟩
              refine WA.step [5, 6] (by kernel_rfl) (by simp) ⟨?_, ?_, trivial⟩
              · refine WL.bin (v := .bool (x1.Faulty == 0)) rfl rfl (ib_eql _ _ _) ?_
                refine WL.nil ⟨rfl, _, rfl, ?_⟩
                refine WA.step [6] (by kernel_rfl) (by simp) ⟨?_, trivial⟩
                refine WL.assign (v := .bool (x1.Columns == 0)) rfl ?_
                refine WL.nil ⟨rfl, _, rfl, ?_⟩
                refine WA.step [7] (by kernel_rfl) (by simp) ⟨?_, trivial⟩
                refine WL.assign (v := .bool (x1.Faulty == 0)) rfl ?_
                refine WL.nil ⟨rfl, _, rfl, ?_⟩
                refine WA.done (by kernel_rfl) ?_
                exact Jk11 (x1.Columns == 0) (x1.Faulty == 0) _ _ (hu46 1 rfl) rfl rfl ((hs.mask [true]).pick [2]) hf
              · refine WL.assign (v := .bool (x1.Columns == 0)) rfl ?_
                refine WL.nil ⟨rfl, _, rfl, ?_⟩
                refine WA.step [5] (by kernel_rfl) (by simp) ⟨?_, trivial⟩
                refine WL.bin (v := .bool (x1.Faulty == 0)) rfl rfl (ib_eql _ _ _) ?_
                refine WL.nil ⟨rfl, _, rfl, ?_⟩
                refine WA.step [7] (by kernel_rfl) (by simp) ⟨?_, trivial⟩
                refine WL.assign (v := .bool (x1.Faulty == 0)) rfl ?_
                refine WL.nil ⟨rfl, _, rfl, ?_⟩
                refine WA.done (by kernel_rfl) ?_
                exact Jk11 (x1.Columns == 0) (x1.Faulty == 0) _ _ (hu46 1 rfl) rfl rfl ((hs.mask [true]).pick [2]) hf
            · refine WL.assign (v := .bool (x1.Columns == 0)) rfl ?_
              refine WL.nil ⟨rfl, _, rfl, ?_⟩
              refine WA.step [4] (by kernel_rfl) (by simp) ⟨?_, trivial⟩
              refine WL.loadF (z := x1.Faulty) F_api_Rule_Faulty hs 0 rfl 1 rfl rfl TI3 (.inr rfl) rfl rfl (fun v48 hs => ?_)
              obtain rfl := hs.int 0 rfl
              refine WL.nil ⟨rfl, _, rfl, ?_⟩
              refine WA.step [5] (by kernel_rfl) (by simp) ⟨?_, trivial⟩
              refine WL.bin (v := .bool (x1.Faulty == 0)) rfl rfl (ib_eql _ _ _) ?_
              refine WL.nil ⟨rfl, _, rfl, ?_⟩
              refine WA.step [7] (by kernel_rfl) (by simp) ⟨?_, trivial⟩
              refine WL.assign (v := .bool (x1.Faulty == 0)) rfl ?_
              refine WL.nil ⟨rfl, _, rfl, ?_⟩
              refine WA.done (by kernel_rfl) ?_
              exact Jk11 (x1.Columns == 0) (x1.Faulty == 0) _ _ (hu46 1 rfl) rfl rfl ((hs.mask [true]).pick [2]) hf
          · refine WL.assign (v := .bool (x1.Columns == 0)) rfl ?_
            refine WL.nil ⟨rfl, _, rfl, ?_⟩
            refine WA.step [3] (by kernel_rfl) (by simp) ⟨?_, trivial⟩
            refine WL.fieldAddr (m := 2) (hu46 1 rfl) FA23_2 rfl ?_
            refine WL.nil ⟨rfl, _, rfl, ?_⟩
            refine WA.step [4] (by kernel_rfl) (by simp) ⟨?_, trivial⟩
            refine WL.loadF (z := x1.Faulty) F_api_Rule_Faulty hs 0 rfl 1 rfl rfl TI3 (.inr rfl) rfl rfl (fun v48 hs => ?_)
            obtain rfl := hs.int 0 rfl
            refine WL.nil ⟨rfl, _, rfl, ?_⟩
            refine WA.step [5] (by kernel_rfl) (by simp) ⟨?_, trivial⟩
            refine WL.bin (v := .bool (x1.Faulty == 0)) rfl rfl (ib_eql _ _ _) ?_
            refine WL.nil ⟨rfl, _, rfl, ?_⟩
            refine WA.step [7] (by kernel_rfl) (by simp) ⟨?_, trivial⟩
            refine WL.assign (v := .bool (x1.Faulty == 0)) rfl ?_
            refine WL.nil ⟨rfl, _, rfl, ?_⟩
            refine WA.done (by kernel_rfl) ?_
            exact Jk11 (x1.Columns == 0) (x1.Faulty == 0) _ _ (hu46 1 rfl) rfl rfl ((hs.mask [true]).pick [2]) hf
        · refine WL.fieldAddr (m := 2) (hu46 1 rfl) FA23_2 rfl ?_
          refine WL.nil ⟨rfl, _, rfl, ?_⟩
          refine WA.step [2, 4] (by kernel_rfl) (by simp) ⟨?_, ?_, trivial⟩
          · refine WL.bin (v := .bool (x1.Columns == 0)) rfl rfl (ib_eql _ _ _) ?_
            refine WL.nil ⟨rfl, _, rfl, ?_⟩
            refine WA.step [4, 6] (by kernel_rfl) (by simp) ⟨?_, ?_, trivial⟩
            · refine WL.loadF (z := x1.Faulty) F_api_Rule_Faulty hs 0 rfl 1 rfl rfl TI3 (.inr rfl) rfl rfl (fun v48 hs => ?_)
              obtain rfl := hs.int 0 rfl
              refine WL.nil ⟨rfl, _, rfl, ?_⟩
              refine WA.step [5, 6] (by kernel_rfl) (by simp) ⟨?_, ?_, trivial⟩
              · refine WL.bin (v := .bool (x1.Faulty == 0)) rfl rfl (ib_eql _ _ _) ?_
                refine WL.nil ⟨rfl, _, rfl, ?_⟩
                refine WA.step [6] (by kernel_rfl) (by simp) ⟨?_, trivial⟩
                refine WL.assign (v := .bool (x1.Columns == 0)) rfl ?_
                refine WL.nil ⟨rfl, _, rfl, ?_⟩
                refine WA.step [7] (by kernel_rfl) (by simp) ⟨?_, trivial⟩
                refine WL.assign (v := .bool (x1.Faulty == 0)) rfl ?_
                refine WL.nil ⟨rfl, _, rfl, ?_⟩
                refine WA.done (by kernel_rfl) ?_
                exact Jk11 (x1.Columns == 0) (x1.Faulty == 0) _ _ (hu46 1 rfl) rfl rfl ((hs.mask [true]).pick [2]) hf
              · refine WL.assign (v := .bool (x1.Columns == 0)) rfl ?_
                refine WL.nil ⟨rfl, _, rfl, ?_⟩
                refine WA.step [5] (by kernel_rfl) (by simp) ⟨?_, trivial⟩
                refine WL.bin (v := .bool (x1.Faulty == 0)) rfl rfl (ib_eql _ _ _) ?_
                refine WL.nil ⟨rfl, _, rfl, ?_⟩
                refine WA.step [7] (by kernel_rfl) (by simp) ⟨?_, trivial⟩
                refine WL.assign (v := .bool (x1.Faulty == 0)) rfl ?_
                refine WL.nil ⟨rfl, _, rfl, ?_⟩
                refine WA.done (by kernel_rfl) ?_
                exact Jk11 (x1.Columns == 0) (x1.Faulty == 0) _ _ (hu46 1 rfl) rfl rfl ((hs.mask [true]).pick [2]) hf
            · refine WL.assign (v := .bool (x1.Columns == 0)) rfl ?_
              refine WL.nil ⟨rfl, _, rfl, ?_⟩
              refine WA.step [4] (by kernel_rfl) (by simp) ⟨?_, trivial⟩
              refine WL.loadF (z := x1.Faulty) F_api_Rule_Faulty hs 0 rfl 1 rfl rfl TI3 (.inr rfl) rfl rfl (fun v48 hs => ?_)
              obtain rfl := hs.int 0 rfl
              refine WL.nil ⟨rfl, _, rfl, ?_⟩
              refine WA.step [5] (by kernel_rfl) (by simp) ⟨?_, trivial⟩
              refine WL.bin (v := .bool (x1.Faulty == 0)) rfl rfl (ib_eql _ _ _) ?_
              refine WL.nil ⟨rfl, _, rfl, ?_⟩
              refine WA.step [7] (by kernel_rfl) (by simp) ⟨?_, trivial⟩
              refine WL.assign (v := .bool (x1.Faulty == 0)) rfl ?_
              refine WL.nil ⟨rfl, _, rfl, ?_⟩
              refine WA.done (by kernel_rfl) ?_
              exact Jk11 (x1.Columns == 0) (x1.Faulty == 0) _ _ (hu46 1 rfl) rfl rfl ((hs.mask [true]).pick [2]) hf
          · refine WL.loadF (z := x1.Faulty) F_api_Rule_Faulty hs 0 rfl 1 rfl rfl TI3 (.inr rfl) rfl rfl (fun v48 hs => ?_)
            obtain rfl := hs.int 0 rfl
            refine WL.nil ⟨rfl, _, rfl, ?_⟩
            refine WA.step [2, 5] (by kernel_rfl) (by simp) ⟨?_, ?_, trivial⟩
            · refine WL.bin (v := .bool (x1.Columns == 0)) rfl rfl (ib_eql _ _ _) ?_
              refine WL.nil ⟨rfl, _, rfl, ?_⟩
              refine WA.step [5, 6] (by kernel_rfl) (by simp) ⟨?_, ?_, trivial⟩
              · refine WL.bin (v := .bool (x1.Faulty == 0)) rfl rfl (ib_eql _ _ _) ?_
                refine WL.nil ⟨rfl, _, rfl, ?_⟩
                refine WA.step [6] (by kernel_rfl) (by simp) ⟨?_, trivial⟩
                refine WL.assign (v := .bool (x1.Columns == 0)) rfl ?_
                refine WL.nil ⟨rfl, _, rfl, ?_⟩
                refine WA.step [7] (by kernel_rfl) (by simp) ⟨?_, trivial⟩
                refine WL.assign (v := .bool (x1.Faulty == 0)) rfl ?_
                refine WL.nil ⟨rfl, _, rfl, ?_⟩
                refine WA.done (by kernel_rfl) ?_
                exact Jk11 (x1.Columns == 0) (x1.Faulty == 0) _ _ (hu46 1 rfl) rfl rfl ((hs.mask [true]).pick [2]) hf
              · refine WL.assign (v := .bool (x1.Columns == 0)) rfl ?_
                refine WL.nil ⟨rfl, _, rfl, ?_⟩
                refine WA.step [5] (by kernel_rfl) (by simp) ⟨?_, trivial⟩
                refine WL.bin (v := .bool (x1.Faulty == 0)) rfl rfl (ib_eql _ _ _) ?_
                refine WL.nil ⟨rfl, _, rfl, ?_⟩
                refine WA.step [7] (by kernel_rfl) (by simp) ⟨?_, trivial⟩
                refine WL.assign (v := .bool (x1.Faulty == 0)) rfl ?_
                refine WL.nil ⟨rfl, _, rfl, ?_⟩
                refine WA.done (by kernel_rfl) ?_
                exact Jk11 (x1.Columns == 0) (x1.Faulty == 0) _ _ (hu46 1 rfl) rfl rfl ((hs.mask [true]).pick [2]) hf
            · refine WL.bin (v := .bool (x1.Faulty == 0)) rfl rfl (ib_eql _ _ _) ?_
              refine WL.nil ⟨rfl, _, rfl, ?_⟩
              refine WA.step [2] (by kernel_rfl) (by simp) ⟨?_, trivial⟩
              refine WL.bin (v := .bool (x1.Columns == 0)) rfl rfl (ib_eql _ _ _) ?_
              refine WL.nil ⟨rfl, _, rfl, ?_⟩
              refine WA.step [6] (by kernel_rfl) (by simp) ⟨?_, trivial⟩
              refine WL.assign (v := .bool (x1.Columns == 0)) rfl ?_
              refine WL.nil ⟨rfl, _, rfl, ?_⟩
              refine WA.step [7] (by kernel_rfl) (by simp) ⟨?_, trivial⟩
              refine WL.assign (v := .bool (x1.Faulty == 0)) rfl ?_
              refine WL.nil ⟨rfl, _, rfl, ?_⟩
              refine WA.done (by kernel_rfl) ?_
              exact Jk11 (x1.Columns == 0) (x1.Faulty == 0) _ _ (hu46 1 rfl) rfl rfl ((hs.mask [true]).pick [2]) hf
      · refine WL.fieldAddr (m := 2) (hu46 1 rfl) FA23_2 rfl ?_
        refine WL.nil ⟨rfl, _, rfl, ?_⟩
        refine WA.step [1, 4] (by kernel_rfl) (by simp) ⟨?_, ?_, trivial⟩
        · refine WL.loadF (z := x1.Columns) F_api_Rule_Columns hs 0 rfl 0 rfl rfl TI3 (.inr rfl) rfl rfl (fun v47 hs => ?_)
          obtain rfl := hs.int 0 rfl
          refine WL.nil ⟨rfl, _, rfl, ?_⟩
          refine WA.step [2, 4] (by kernel_rfl) (by simp) ⟨?_, ?_, trivial⟩
          · refine WL.bin (v := .bool (x1.Columns == 0)) rfl rfl (ib_eql _ _ _) ?_
            refine WL.nil ⟨rfl, _, rfl, ?_⟩
            refine WA.step [4, 6] (by kernel_rfl) (by simp) ⟨?_, ?_, trivial⟩
            · refine WL.loadF (z := x1.Faulty) F_api_Rule_Faulty hs 0 rfl 1 rfl rfl TI3 (.inr rfl) rfl rfl (fun v48 hs => ?_)
              obtain rfl := hs.int 0 rfl
              refine WL.nil ⟨rfl, _, rfl, ?_⟩
              refine WA.step [5, 6] (by kernel_rfl) (by simp) ⟨?_, ?_, trivial⟩
              · refine WL.bin (v := .bool (x1.Faulty == 0)) rfl rfl (ib_eql _ _ _) ?_
                refine WL.nil ⟨rfl, _, rfl, ?_⟩
                refine WA.step [6] (by kernel_rfl) (by simp) ⟨?_, trivial⟩
                refine WL.assign (v := .bool (x1.Columns == 0)) rfl ?_
                refine WL.nil ⟨rfl, _, rfl, ?_⟩
                refine WA.step [7] (by kernel_rfl) (by simp) ⟨?_, trivial⟩
                refine WL.assign (v := .bool (x1.Faulty == 0)) rfl ?_
                refine WL.nil ⟨rfl, _, rfl, ?_⟩
                refine WA.done (by kernel_rfl) ?_
                exact Jk11 (x1.Columns == 0) (x1.Faulty == 0) _ _ (hu46 1 rfl) rfl rfl ((hs.mask [true]).pick [2]) hf
              · refine WL.assign (v := .bool (x1.Columns == 0)) rfl ?_
                refine WL.nil ⟨rfl, _, rfl, ?_⟩
                refine WA.step [5] (by kernel_rfl) (by simp) ⟨?_, trivial⟩
                refine WL.bin (v := .bool (x1.Faulty == 0)) rfl rfl (ib_eql _ _ _) ?_
                refine WL.nil ⟨rfl, _, rfl, ?_⟩
                refine WA.step [7] (by kernel_rfl) (by simp) ⟨?_, trivial⟩
                refine WL.assign (v := .bool (x1.Faulty == 0)) rfl ?_
                refine WL.nil ⟨rfl, _, rfl, ?_⟩
                refine WA.done (by kernel_rfl) ?_
                exact Jk11 (x1.Columns == 0) (x1.Faulty == 0) _ _ (hu46 1 rfl) rfl rfl ((hs.mask [true]).pick [2]) hf
            · refine WL.assign (v := .bool (x1.Columns == 0)) rfl ?_
              refine WL.nil ⟨rfl, _, rfl, ?_⟩
              refine WA.step [4] (by kernel_rfl) (by simp) ⟨?_, trivial⟩
              refine WL.loadF (z := x1.Faulty) F_api_Rule_Faulty hs 0 rfl 1 rfl rfl TI3 (.inr rfl) rfl rfl (fun v48 hs => ?_)
              obtain rfl := hs.int 0 rfl
              refine WL.nil ⟨rfl, _, rfl, ?_⟩
              refine WA.step [5] (by kernel_rfl) (by simp) ⟨?_, trivial⟩
              refine WL.bin (v := .bool (x1.Faulty == 0)) rfl rfl (ib_eql _ _ _) ?_
              refine WL.nil ⟨rfl, _, rfl, ?_⟩
              refine WA.step [7] (by kernel_rfl) (by simp) ⟨?_, trivial⟩
              refine WL.assign (v := .bool (x1.Faulty == 0)) rfl ?_
              refine WL.nil ⟨rfl, _, rfl, ?_⟩
              refine WA.done (by kernel_rfl) ?_
              exact Jk11 (x1.Columns == 0) (x1.Faulty == 0) _ _ (hu46 1 rfl) rfl rfl ((hs.mask [true]).pick [2]) hf
          · refine WL.loadF (z := x1.Faulty) F_api_Rule_Faulty hs 0 rfl 1 rfl rfl TI3 (.inr rfl) rfl rfl (fun v48 hs => ?_)
            obtain rfl := hs.int 0 rfl
            refine WL.nil ⟨rfl, _, rfl, ?_⟩
            refine WA.step [2, 5] (by kernel_rfl) (by simp) ⟨?_, ?_, trivial⟩
            · refine WL.bin (v := .bool (x1.Columns == 0)) rfl rfl (ib_eql _ _ _) ?_
              refine WL.nil ⟨rfl, _, rfl, ?_⟩
              refine WA.step [5, 6] (by kernel_rfl) (by simp) ⟨?_, ?_, trivial⟩
              · refine WL.bin (v := .bool (x1.Faulty == 0)) rfl rfl (ib_eql _ _ _) ?_
                refine WL.nil ⟨rfl, _, rfl, ?_⟩
                refine WA.step [6] (by kernel_rfl) (by simp) ⟨?_, trivial⟩
                refine WL.assign (v := .bool (x1.Columns == 0)) rfl ?_
                refine WL.nil ⟨rfl, _, rfl, ?_⟩
                refine WA.step [7] (by kernel_rfl) (by simp) ⟨?_, trivial⟩
                refine WL.assign (v := .bool (x1.Faulty == 0)) rfl ?_
                refine WL.nil ⟨rfl, _, rfl, ?_⟩
                refine WA.done (by kernel_rfl) ?_
                exact Jk11 (x1.Columns == 0) (x1.Faulty == 0) _ _ (hu46 1 rfl) rfl rfl ((hs.mask [true]).pick [2]) hf
              · refine WL.assign (v := .bool (x1.Columns == 0)) rfl ?_
                refine WL.nil ⟨rfl, _, rfl, ?_⟩
                refine WA.step [5] (by kernel_rfl) (by simp) ⟨?_, trivial⟩
                refine WL.bin (v := .bool (x1.Faulty == 0)) rfl rfl (ib_eql _ _ _) ?_
                refine WL.nil ⟨rfl, _, rfl, ?_⟩
                refine WA.step [7] (by kernel_rfl) (by simp) ⟨?_, trivial⟩
                refine WL.assign (v := .bool (x1.Faulty == 0)) rfl ?_
                refine WL.nil ⟨rfl, _, rfl, ?_⟩
                refine WA.done (by kernel_rfl) ?_
                exact Jk11 (x1.Columns == 0) (x1.Faulty == 0) _ _ (hu46 1 rfl) rfl rfl ((hs.mask [true]).pick [2]) hf
            · refine WL.bin (v := .bool (x1.Faulty == 0)) rfl rfl (ib_eql _ _ _) ?_
              refine WL.nil ⟨rfl, _, rfl, ?_⟩
              refine WA.step [2] (by kernel_rfl) (by simp) ⟨?_, trivial⟩
              refine WL.bin (v := .bool (x1.Columns == 0)) rfl rfl (ib_eql _ _ _) ?_
              refine WL.nil ⟨rfl, _, rfl, ?_⟩
              refine WA.step [6] (by kernel_rfl) (by simp) ⟨?_, trivial⟩
              refine WL.assign (v := .bool (x1.Columns == 0)) rfl ?_
              refine WL.nil ⟨rfl, _, rfl, ?_⟩
              refine WA.step [7] (by kernel_rfl) (by simp) ⟨?_, trivial⟩
              refine WL.assign (v := .bool (x1.Faulty == 0)) rfl ?_
              refine WL.nil ⟨rfl, _, rfl, ?_⟩
              refine WA.done (by kernel_rfl) ?_
              exact Jk11 (x1.Columns == 0) (x1.Faulty == 0) _ _ (hu46 1 rfl) rfl rfl ((hs.mask [true]).pick [2]) hf
        · refine WL.loadF (z := x1.Faulty) F_api_Rule_Faulty hs 0 rfl 0 rfl rfl TI3 (.inr rfl) rfl rfl (fun v47 hs => ?_)
          obtain rfl := hs.int 0 rfl
          refine WL.nil ⟨rfl, _, rfl, ?_⟩
          refine WA.step [1, 5] (by kernel_rfl) (by simp) ⟨?_, ?_, trivial⟩
          · refine WL.loadF (z := x1.Columns) F_api_Rule_Columns hs 0 rfl 1 rfl rfl TI3 (.inr rfl) rfl rfl (fun v48 hs => ?_)
            obtain rfl := hs.int 0 rfl
            refine WL.nil ⟨rfl, _, rfl, ?_⟩
            refine WA.step [2, 5] (by kernel_rfl) (by simp) ⟨?_, ?_, trivial⟩
            · refine WL.bin (v := .bool (x1.Columns == 0)) rfl rfl (ib_eql _ _ _) ?_
              refine WL.nil ⟨rfl, _, rfl, ?_⟩
              refine WA.step [5, 6] (by kernel_rfl) (by simp) ⟨?_, ?_, trivial⟩
              · refine WL.bin (v := .bool (x1.Faulty == 0)) rfl rfl (ib_eql _ _ _) ?_
                refine WL.nil ⟨rfl, _, rfl, ?_⟩
                refine WA.step [6] (by kernel_rfl) (by simp) ⟨?_, trivial⟩
                refine WL.assign (v := .bool (x1.Columns == 0)) rfl ?_
                refine WL.nil ⟨rfl, _, rfl, ?_⟩
                refine WA.step [7] (by kernel_rfl) (by simp) ⟨?_, trivial⟩
                refine WL.assign (v := .bool (x1.Faulty == 0)) rfl ?_
                refine WL.nil ⟨rfl, _, rfl, ?_⟩
                refine WA.done (by kernel_rfl) ?_
                exact Jk11 (x1.Columns == 0) (x1.Faulty == 0) _ _ (hu46 1 rfl) rfl rfl ((hs.mask [true]).pick [2]) hf
              · refine WL.assign (v := .bool (x1.Columns == 0)) rfl ?_
                refine WL.nil ⟨rfl, _, rfl, ?_⟩
                refine WA.step [5] (by kernel_rfl) (by simp) ⟨?_, trivial⟩
                refine WL.bin (v := .bool (x1.Faulty == 0)) rfl rfl (ib_eql _ _ _) ?_
                refine WL.nil ⟨rfl, _, rfl, ?_⟩
                refine WA.step [7] (by kernel_rfl) (by simp) ⟨?_, trivial⟩
                refine WL.assign (v := .bool (x1.Faulty == 0)) rfl ?_
                refine WL.nil ⟨rfl, _, rfl, ?_⟩
                refine WA.done (by kernel_rfl) ?_
                exact Jk11 (x1.Columns == 0) (x1.Faulty == 0) _ _ (hu46 1 rfl) rfl rfl ((hs.mask [true]).pick [2]) hf
            · refine WL.bin (v := .bool (x1.Faulty == 0)) rfl rfl (ib_eql _ _ _) ?_
              refine WL.nil ⟨rfl, _, rfl, ?_⟩
              refine WA.step [2] (by kernel_rfl) (by simp) ⟨?_, trivial⟩
              refine WL.bin (v := .bool (x1.Columns == 0)) rfl rfl (ib_eql _ _ _) ?_
              refine WL.nil ⟨rfl, _, rfl, ?_⟩
              refine WA.step [6] (by kernel_rfl) (by simp) ⟨?_, trivial⟩
              refine WL.assign (v := .bool (x1.Columns == 0)) rfl ?_
              refine WL.nil ⟨rfl, _, rfl, ?_⟩
              refine WA.step [7] (by kernel_rfl) (by simp) ⟨?_, trivial⟩
              refine WL.assign (v := .bool (x1.Faulty == 0)) rfl ?_
              refine WL.nil ⟨rfl, _, rfl, ?_⟩
              refine WA.done (by kernel_rfl) ?_
              exact Jk11 (x1.Columns == 0) (x1.Faulty == 0) _ _ (hu46 1 rfl) rfl rfl ((hs.mask [true]).pick [2]) hf
          · refine WL.bin (v := .bool (x1.Faulty == 0)) rfl rfl (ib_eql _ _ _) ?_
            refine WL.nil ⟨rfl, _, rfl, ?_⟩
            refine WA.step [1] (by kernel_rfl) (by simp) ⟨?_, trivial⟩
            refine WL.loadF (z := x1.Columns) F_api_Rule_Columns hs 0 rfl 1 rfl rfl TI3 (.inr rfl) rfl rfl (fun v48 hs => ?_)
            obtain rfl := hs.int 0 rfl
            refine WL.nil ⟨rfl, _, rfl, ?_⟩
            refine WA.step [2] (by kernel_rfl) (by simp) ⟨?_, trivial⟩
            refine WL.bin (v := .bool (x1.Columns == 0)) rfl rfl (ib_eql _ _ _) ?_
            refine WL.nil ⟨rfl, _, rfl, ?_⟩
            refine WA.step [6] (by kernel_rfl) (by simp) ⟨?_, trivial⟩
            refine WL.assign (v := .bool (x1.Columns == 0)) rfl ?_
            refine WL.nil ⟨rfl, _, rfl, ?_⟩
            refine WA.step [7] (by kernel_rfl) (by simp) ⟨?_, trivial⟩
            refine WL.assign (v := .bool (x1.Faulty == 0)) rfl ?_
            refine WL.nil ⟨rfl, _, rfl, ?_⟩
            refine WA.done (by kernel_rfl) ?_
            exact Jk11 (x1.Columns == 0) (x1.Faulty == 0) _ _ (hu46 1 rfl) rfl rfl ((hs.mask [true]).pick [2]) hf
    · refine WL.fieldAddr (m := 2) (hu46 1 rfl) FA23_2 rfl ?_
      refine WL.nil ⟨rfl, _, rfl, ?_⟩
      refine WA.step [0, 4] (by kernel_rfl) (by simp) ⟨?_, ?_, trivial⟩
      · refine WL.fieldAddr (m := 1) (hu46 1 rfl) FA23_1 rfl ?_
        refine WL.nil ⟨rfl, _, rfl, ?_⟩
        refine WA.step [1, 4] (by kernel_rfl) (by simp) ⟨?_, ?_, trivial⟩
        · refine WL.loadF (z := x1.Columns) F_api_Rule_Columns hs 0 rfl 0 rfl rfl TI3 (.inr rfl) rfl rfl (fun v47 hs => ?_)
          obtain rfl := hs.int 0 rfl
          refine WL.nil ⟨rfl, _, rfl, ?_⟩
          refine WA.step [2, 4] (by kernel_rfl) (by simp) ⟨?_, ?_, trivial⟩
          · refine WL.bin (v := .bool (x1.Columns == 0)) rfl rfl (ib_eql _ _ _) ?_
            refine WL.nil ⟨rfl, _, rfl, ?_⟩
            refine WA.step [4, 6] (by kernel_rfl) (by simp) ⟨?_, ?_, trivial⟩
            · refine WL.loadF (z := x1.Faulty) F_api_Rule_Faulty hs 0 rfl 1 rfl rfl TI3 (.inr rfl) rfl rfl (fun v48 hs => ?_)
              obtain rfl := hs.int 0 rfl
              refine WL.nil ⟨rfl, _, rfl, ?_⟩
              refine WA.step [5, 6] (by kernel_rfl) (by simp) ⟨?_, ?_, trivial⟩
              · refine WL.bin (v := .bool (x1.Faulty == 0)) rfl rfl (ib_eql _ _ _) ?_
                refine WL.nil ⟨rfl, _, rfl, ?_⟩
                refine WA.step [6] (by kernel_rfl) (by simp) ⟨?_, trivial⟩
                refine WL.assign (v := .bool (x1.Columns == 0)) rfl ?_
                refine WL.nil ⟨rfl, _, rfl, ?_⟩
                refine WA.step [7] (by kernel_rfl) (by simp) ⟨?_, trivial⟩
                refine WL.assign (v := .bool (x1.Faulty == 0)) rfl ?_
                refine WL.nil ⟨rfl, _, rfl, ?_⟩
                refine WA.done (by kernel_rfl) ?_
                exact Jk11 (x1.Columns == 0) (x1.Faulty == 0) _ _ (hu46 1 rfl) rfl rfl ((hs.mask [true]).pick [2]) hf
              · refine WL.assign (v := .bool (x1.Columns == 0)) rfl ?_
                refine WL.nil ⟨rfl, _, rfl, ?_⟩
                refine WA.step [5] (by kernel_rfl) (by simp) ⟨?_, trivial⟩
                refine WL.bin (v := .bool (x1.Faulty == 0)) rfl rfl (ib_eql _ _ _) ?_
                refine WL.nil ⟨rfl, _, rfl, ?_⟩
                refine WA.step [7] (by kernel_rfl) (by simp) ⟨?_, trivial⟩
                refine WL.assign (v := .bool (x1.Faulty == 0)) rfl ?_
                refine WL.nil ⟨rfl, _, rfl, ?_⟩
                refine WA.done (by kernel_rfl) ?_
                exact Jk11 (x1.Columns == 0) (x1.Faulty == 0) _ _ (hu46 1 rfl) rfl rfl ((hs.mask [true]).pick [2]) hf
            · refine WL.assign (v := .bool (x1.Columns == 0)) rfl ?_
              refine WL.nil ⟨rfl, _, rfl, ?_⟩
              refine WA.step [4] (by kernel_rfl) (by simp) ⟨?_, trivial⟩
              refine WL.loadF (z := x1.Faulty) F_api_Rule_Faulty hs 0 rfl 1 rfl rfl TI3 (.inr rfl) rfl rfl (fun v48 hs => ?_)
              obtain rfl := hs.int 0 rfl
              refine WL.nil ⟨rfl, _, rfl, ?_⟩
              refine WA.step [5] (by kernel_rfl) (by simp) ⟨?_, trivial⟩
              refine WL.bin (v := .bool (x1.Faulty == 0)) rfl rfl (ib_eql _ _ _) ?_
              refine WL.nil ⟨rfl, _, rfl, ?_⟩
              refine WA.step [7] (by kernel_rfl) (by simp) ⟨?_, trivial⟩
              refine WL.assign (v := .bool (x1.Faulty == 0)) rfl ?_
              refine WL.nil ⟨rfl, _, rfl, ?_⟩
              refine WA.done (by kernel_rfl) ?_
              exact Jk11 (x1.Columns == 0) (x1.Faulty == 0) _ _ (hu46 1 rfl) rfl rfl ((hs.mask [true]).pick [2]) hf
          · refine WL.loadF (z := x1.Faulty) F_api_Rule_Faulty hs 0 rfl 1 rfl rfl TI3 (.inr rfl) rfl rfl (fun v48 hs => ?_)
            obtain rfl := hs.int 0 rfl
            refine WL.nil ⟨rfl, _, rfl, ?_⟩
            refine WA.step [2, 5] (by kernel_rfl) (by simp) ⟨?_, ?_, trivial⟩
            · refine WL.bin (v := .bool (x1.Columns == 0)) rfl rfl (ib_eql _ _ _) ?_
              refine WL.nil ⟨rfl, _, rfl, ?_⟩
              refine WA.step [5, 6] (by kernel_rfl) (by simp) ⟨?_, ?_, trivial⟩
              · refine WL.bin (v := .bool (x1.Faulty == 0)) rfl rfl (ib_eql _ _ _) ?_
                refine WL.nil ⟨rfl, _, rfl, ?_⟩
                refine WA.step [6] (by kernel_rfl) (by simp) ⟨?_, trivial⟩
                refine WL.assign (v := .bool (x1.Columns == 0)) rfl ?_
                refine WL.nil ⟨rfl, _, rfl, ?_⟩
                refine WA.step [7] (by kernel_rfl) (by simp) ⟨?_, trivial⟩
                refine WL.assign (v := .bool (x1.Faulty == 0)) rfl ?_
                refine WL.nil ⟨rfl, _, rfl, ?_⟩
                refine WA.done (by kernel_rfl) ?_
                exact Jk11 (x1.Columns == 0) (x1.Faulty == 0) _ _ (hu46 1 rfl) rfl rfl ((hs.mask [true]).pick [2]) hf
              · refine WL.assign (v := .bool (x1.Columns == 0)) rfl ?_
                refine WL.nil ⟨rfl, _, rfl, ?_⟩
                refine WA.step [5] (by kernel_rfl) (by simp) ⟨?_, trivial⟩
                refine WL.bin (v := .bool (x1.Faulty == 0)) rfl rfl (ib_eql _ _ _) ?_
                refine WL.nil ⟨rfl, _, rfl, ?_⟩
                refine WA.step [7] (by kernel_rfl) (by simp) ⟨?_, trivial⟩
                refine WL.assign (v := .bool (x1.Faulty == 0)) rfl ?_
                refine WL.nil ⟨rfl, _, rfl, ?_⟩
                refine WA.done (by kernel_rfl) ?_
                exact Jk11 (x1.Columns == 0) (x1.Faulty == 0) _ _ (hu46 1 rfl) rfl rfl ((hs.mask [true]).pick [2]) hf
            · refine WL.bin (v := .bool (x1.Faulty == 0)) rfl rfl (ib_eql _ _ _) ?_
              refine WL.nil ⟨rfl, _, rfl, ?_⟩
              refine WA.step [2] (by kernel_rfl) (by simp) ⟨?_, trivial⟩
              refine WL.bin (v := .bool (x1.Columns == 0)) rfl rfl (ib_eql _ _ _) ?_
              refine WL.nil ⟨rfl, _, rfl, ?_⟩
              refine WA.step [6] (by kernel_rfl) (by simp) ⟨?_, trivial⟩
              refine WL.assign (v := .bool (x1.Columns == 0)) rfl ?_
              refine WL.nil ⟨rfl, _, rfl, ?_⟩
              refine WA.step [7] (by kernel_rfl) (by simp) ⟨?_, trivial⟩
              refine WL.assign (v := .bool (x1.Faulty == 0)) rfl ?_
              refine WL.nil ⟨rfl, _, rfl, ?_⟩
              refine WA.done (by kernel_rfl) ?_
              exact Jk11 (x1.Columns == 0) (x1.Faulty == 0) _ _ (hu46 1 rfl) rfl rfl ((hs.mask [true]).pick [2]) hf
        · refine WL.loadF (z := x1.Faulty) F_api_Rule_Faulty hs 0 rfl 0 rfl rfl TI3 (.inr rfl) rfl rfl (fun v47 hs => ?_)
          obtain rfl := hs.int 0 rfl
          refine WL.nil ⟨rfl, _, rfl, ?_⟩
          refine WA.step [1, 5] (by kernel_rfl) (by simp) ⟨?_, ?_, trivial⟩
          · refine WL.loadF (z := x1.Columns) F_api_Rule_Columns hs 0 rfl 1 rfl rfl TI3 (.inr rfl) rfl rfl (fun v48 hs => ?_)
            obtain rfl := hs.int 0 rfl
            refine WL.nil ⟨rfl, _, rfl, ?_⟩
            refine WA.step [2, 5] (by kernel_rfl) (by simp) ⟨?_, ?_, trivial⟩
            · refine WL.bin (v := .bool (x1.Columns == 0)) rfl rfl (ib_eql _ _ _) ?_
              refine WL.nil ⟨rfl, _, rfl, ?_⟩
              refine WA.step [5, 6] (by kernel_rfl) (by simp) ⟨?_, ?_, trivial⟩
              · refine WL.bin (v := .bool (x1.Faulty == 0)) rfl rfl (ib_eql _ _ _) ?_
                refine WL.nil ⟨rfl, _, rfl, ?_⟩
                refine WA.step [6] (by kernel_rfl) (by simp) ⟨?_, trivial⟩
                refine WL.assign (v := .bool (x1.Columns == 0)) rfl ?_
                refine WL.nil ⟨rfl, _, rfl, ?_⟩
                refine WA.step [7] (by kernel_rfl) (by simp) ⟨?_, trivial⟩
                refine WL.assign (v := .bool (x1.Faulty == 0)) rfl ?_
                refine WL.nil ⟨rfl, _, rfl, ?_⟩
                refine WA.done (by kernel_rfl) ?_
                exact Jk11 (x1.Columns == 0) (x1.Faulty == 0) _ _ (hu46 1 rfl) rfl rfl ((hs.mask [true]).pick [2]) hf
              · refine WL.assign (v := .bool (x1.Columns == 0)) rfl ?_
                refine WL.nil ⟨rfl, _, rfl, ?_⟩
                refine WA.step [5] (by kernel_rfl) (by simp) ⟨?_, trivial⟩
                refine WL.bin (v := .bool (x1.Faulty == 0)) rfl rfl (ib_eql _ _ _) ?_
                refine WL.nil ⟨rfl, _, rfl, ?_⟩
                refine WA.step [7] (by kernel_rfl) (by simp) ⟨?_, trivial⟩
                refine WL.assign (v := .bool (x1.Faulty == 0)) rfl ?_
                refine WL.nil ⟨rfl, _, rfl, ?_⟩
                refine WA.done (by kernel_rfl) ?_
                exact Jk11 (x1.Columns == 0) (x1.Faulty == 0) _ _ (hu46 1 rfl) rfl rfl ((hs.mask [true]).pick [2]) hf
            · refine WL.bin (v := .bool (x1.Faulty == 0)) rfl rfl (ib_eql _ _ _) ?_
              refine WL.nil ⟨rfl, _, rfl, ?_⟩
              refine WA.step [2] (by kernel_rfl) (by simp) ⟨?_, trivial⟩
              refine WL.bin (v := .bool (x1.Columns == 0)) rfl rfl (ib_eql _ _ _) ?_
              refine WL.nil ⟨rfl, _, rfl, ?_⟩
              refine WA.step [6] (by kernel_rfl) (by simp) ⟨?_, trivial⟩
              refine WL.assign (v := .bool (x1.Columns == 0)) rfl ?_
              refine WL.nil ⟨rfl, _, rfl, ?_⟩
              refine WA.step [7] (by kernel_rfl) (by simp) ⟨?_, trivial⟩
              refine WL.assign (v := .bool (x1.Faulty == 0)) rfl ?_
              refine WL.nil ⟨rfl, _, rfl, ?_⟩
              refine WA.done (by kernel_rfl) ?_
              exact Jk11 (x1.Columns == 0) (x1.Faulty == 0) _ _ (hu46 1 rfl) rfl rfl ((hs.mask [true]).pick [2]) hf
          · refine WL.bin (v := .bool (x1.Faulty == 0)) rfl rfl (ib_eql _ _ _) ?_
            refine WL.nil ⟨rfl, _, rfl, ?_⟩
            refine WA.step [1] (by kernel_rfl) (by simp) ⟨?_, trivial⟩
            refine WL.loadF (z := x1.Columns) F_api_Rule_Columns hs 0 rfl 1 rfl rfl TI3 (.inr rfl) rfl rfl (fun v48 hs => ?_)
            obtain rfl := hs.int 0 rfl
            refine WL.nil ⟨rfl, _, rfl, ?_⟩
            refine WA.step [2] (by kernel_rfl) (by simp) ⟨?_, trivial⟩
            refine WL.bin (v := .bool (x1.Columns == 0)) rfl rfl (ib_eql _ _ _) ?_
            refine WL.nil ⟨rfl, _, rfl, ?_⟩
            refine WA.step [6] (by kernel_rfl) (by simp) ⟨?_, trivial⟩
            refine WL.assign (v := .bool (x1.Columns == 0)) rfl ?_
            refine WL.nil ⟨rfl, _, rfl, ?_⟩
            refine WA.step [7] (by kernel_rfl) (by simp) ⟨?_, trivial⟩
            refine WL.assign (v := .bool (x1.Faulty == 0)) rfl ?_
            refine WL.nil ⟨rfl, _, rfl, ?_⟩
            refine WA.done (by kernel_rfl) ?_
            exact Jk11 (x1.Columns == 0) (x1.Faulty == 0) _ _ (hu46 1 rfl) rfl rfl ((hs.mask [true]).pick [2]) hf
      · refine WL.loadF (z := x1.Faulty) F_api_Rule_Faulty hs 0 rfl 0 rfl rfl TI3 (.inr rfl) rfl rfl (fun v47 hs => ?_)
        obtain rfl := hs.int 0 rfl
        refine WL.nil ⟨rfl, _, rfl, ?_⟩
        refine WA.step [0, 5] (by kernel_rfl) (by simp) ⟨?_, ?_, trivial⟩
        · refine WL.fieldAddr (m := 1) (hu46 1 rfl) FA23_1 rfl ?_
          refine WL.nil ⟨rfl, _, rfl, ?_⟩
          refine WA.step [1, 5] (by kernel_rfl) (by simp) ⟨?_, ?_, trivial⟩
          · refine WL.loadF (z := x1.Columns) F_api_Rule_Columns hs 0 rfl 1 rfl rfl TI3 (.inr rfl) rfl rfl (fun v48 hs => ?_)
            obtain rfl := hs.int 0 rfl
            refine WL.nil ⟨rfl, _, rfl, ?_⟩
            refine WA.step [2, 5] (by kernel_rfl) (by simp) ⟨?_, ?_, trivial⟩
            · refine WL.bin (v := .bool (x1.Columns == 0)) rfl rfl (ib_eql _ _ _) ?_
              refine WL.nil ⟨rfl, _, rfl, ?_⟩
              refine WA.step [5, 6] (by kernel_rfl) (by simp) ⟨?_, ?_, trivial⟩
              · refine WL.bin (v := .bool (x1.Faulty == 0)) rfl rfl (ib_eql _ _ _) ?_
                refine WL.nil ⟨rfl, _, rfl, ?_⟩
                refine WA.step [6] (by kernel_rfl) (by simp) ⟨?_, trivial⟩
                refine WL.assign (v := .bool (x1.Columns == 0)) rfl ?_
                refine WL.nil ⟨rfl, _, rfl, ?_⟩
                refine WA.step [7] (by kernel_rfl) (by simp) ⟨?_, trivial⟩
                refine WL.assign (v := .bool (x1.Faulty == 0)) rfl ?_
                refine WL.nil ⟨rfl, _, rfl, ?_⟩
                refine WA.done (by kernel_rfl) ?_
                exact Jk11 (x1.Columns == 0) (x1.Faulty == 0) _ _ (hu46 1 rfl) rfl rfl ((hs.mask [true]).pick [2]) hf
              · refine WL.assign (v := .bool (x1.Columns == 0)) rfl ?_
                refine WL.nil ⟨rfl, _, rfl, ?_⟩
                refine WA.step [5] (by kernel_rfl) (by simp) ⟨?_, trivial⟩
                refine WL.bin (v := .bool (x1.Faulty == 0)) rfl rfl (ib_eql _ _ _) ?_
                refine WL.nil ⟨rfl, _, rfl, ?_⟩
                refine WA.step [7] (by kernel_rfl) (by simp) ⟨?_, trivial⟩
                refine WL.assign (v := .bool (x1.Faulty == 0)) rfl ?_
                refine WL.nil ⟨rfl, _, rfl, ?_⟩
                refine WA.done (by kernel_rfl) ?_
                exact Jk11 (x1.Columns == 0) (x1.Faulty == 0) _ _ (hu46 1 rfl) rfl rfl ((hs.mask [true]).pick [2]) hf
            · refine WL.bin (v := .bool (x1.Faulty == 0)) rfl rfl (ib_eql _ _ _) ?_
              refine WL.nil ⟨rfl, _, rfl, ?_⟩
              refine WA.step [2] (by kernel_rfl) (by simp) ⟨?_, trivial⟩
              refine WL.bin (v := .bool (x1.Columns == 0)) rfl rfl (ib_eql _ _ _) ?_
              refine WL.nil ⟨rfl, _, rfl, ?_⟩
              refine WA.step [6] (by kernel_rfl) (by simp) ⟨?_, trivial⟩
              refine WL.assign (v := .bool (x1.Columns == 0)) rfl ?_
              refine WL.nil ⟨rfl, _, rfl, ?_⟩
              refine WA.step [7] (by kernel_rfl) (by simp) ⟨?_, trivial⟩
              refine WL.assign (v := .bool (x1.Faulty == 0)) rfl ?_
              refine WL.nil ⟨rfl, _, rfl, ?_⟩
              refine WA.done (by kernel_rfl) ?_
              exact Jk11 (x1.Columns == 0) (x1.Faulty == 0) _ _ (hu46 1 rfl) rfl rfl ((hs.mask [true]).pick [2]) hf
          · refine WL.bin (v := .bool (x1.Faulty == 0)) rfl rfl (ib_eql _ _ _) ?_
            refine WL.nil ⟨rfl, _, rfl, ?_⟩
            refine WA.step [1] (by kernel_rfl) (by simp) ⟨?_, trivial⟩
            refine WL.loadF (z := x1.Columns) F_api_Rule_Columns hs 0 rfl 1 rfl rfl TI3 (.inr rfl) rfl rfl (fun v48 hs => ?_)
            obtain rfl := hs.int 0 rfl
            refine WL.nil ⟨rfl, _, rfl, ?_⟩
            refine WA.step [2] (by kernel_rfl) (by simp) ⟨?_, trivial⟩
            refine WL.bin (v := .bool (x1.Columns == 0)) rfl rfl (ib_eql _ _ _) ?_
            refine WL.nil ⟨rfl, _, rfl, ?_⟩
            refine WA.step [6] (by kernel_rfl) (by simp) ⟨?_, trivial⟩
            refine WL.assign (v := .bool (x1.Columns == 0)) rfl ?_
            refine WL.nil ⟨rfl, _, rfl, ?_⟩
            refine WA.step [7] (by kernel_rfl) (by simp) ⟨?_, trivial⟩
            refine WL.assign (v := .bool (x1.Faulty == 0)) rfl ?_
            refine WL.nil ⟨rfl, _, rfl, ?_⟩
            refine WA.done (by kernel_rfl) ?_
            exact Jk11 (x1.Columns == 0) (x1.Faulty == 0) _ _ (hu46 1 rfl) rfl rfl ((hs.mask [true]).pick [2]) hf
        · refine WL.bin (v := .bool (x1.Faulty == 0)) rfl rfl (ib_eql _ _ _) ?_
          refine WL.nil ⟨rfl, _, rfl, ?_⟩
          refine WA.step [0] (by kernel_rfl) (by simp) ⟨?_, trivial⟩
          refine WL.fieldAddr (m := 1) (hu46 1 rfl) FA23_1 rfl ?_
          refine WL.nil ⟨rfl, _, rfl, ?_⟩
          refine WA.step [1] (by kernel_rfl) (by simp) ⟨?_, trivial⟩
          refine WL.loadF (z := x1.Columns) F_api_Rule_Columns hs 0 rfl 1 rfl rfl TI3 (.inr rfl) rfl rfl (fun v48 hs => ?_)
          obtain rfl := hs.int 0 rfl
          refine WL.nil ⟨rfl, _, rfl, ?_⟩
          refine WA.step [2] (by kernel_rfl) (by simp) ⟨?_, trivial⟩
          refine WL.bin (v := .bool (x1.Columns == 0)) rfl rfl (ib_eql _ _ _) ?_
          refine WL.nil ⟨rfl, _, rfl, ?_⟩
          refine WA.step [6] (by kernel_rfl) (by simp) ⟨?_, trivial⟩
          refine WL.assign (v := .bool (x1.Columns == 0)) rfl ?_
          refine WL.nil ⟨rfl, _, rfl, ?_⟩
          refine WA.step [7] (by kernel_rfl) (by simp) ⟨?_, trivial⟩
          refine WL.assign (v := .bool (x1.Faulty == 0)) rfl ?_
          refine WL.nil ⟨rfl, _, rfl, ?_⟩
          refine WA.done (by kernel_rfl) ?_
          exact Jk11 (x1.Columns == 0) (x1.Faulty == 0) _ _ (hu46 1 rfl) rfl rfl ((hs.mask [true]).pick [2]) hf
end Go.Proofs.Ytodebgfppmcjlaa
