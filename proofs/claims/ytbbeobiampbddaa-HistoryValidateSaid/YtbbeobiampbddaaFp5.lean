import Derived.Test.YtbbeobiampbddaaFh
import Derived.Test.YtbbeobiampbddaaLz
set_option linter.unusedVariables false
set_option linter.unusedSimpArgs false
namespace Go.Proofs.Ytbbeobiampbddaa
open Go Go.RowKit Go.Proofs.YtbbeobiampbddaaL
set_option maxRecDepth 100000
set_option maxHeartbeats 4000000
/-! elasticstore/elasticstoreref06.Client: function 53 -/
theorem esref06_Client.calls {ok : Nat → Prop} {w0 : World} {x1 : Int}  {r : Bool} (hf : esref06_Client x1 = some r)  :
    Calls Try.prog 53 #[.int .i64 x1] w0 fun e w' => ∃ v, e = .returned v ∧ ∃ y : Unit, v = .bool r ∧ St ok (bz w0) w' [] [] := by
  unfold esref06_Client at hf
  refine calls_of_W (fn := Try.f53) (N := 9) Try.func53 rfl Try.ntmps53 rfl ?_
  have hs : St ok (bz w0) w0 [] [] := St.init All.nil
  refine W.seqK fun K2 hK2 => ?_
  refine W.region ?_
  refine WL.assign (v := .bool false) rfl ?_
  refine WL.nil ?_
  refine hK2 _ _ ?_
  refine W.seqK fun K3 hK3 => ?_
  have Jk6 : ∀ (x5 : Bool) (ρ : Env) (w : World), ρ 2 = .bool x5 → St ok (bz w0) w [] [] → esref06_Client.j1 x5 = some r → K3 ρ w := by
    intro x5 ρ w h4_2 hs hf
    refine hK3 _ _ ?_
    unfold esref06_Client.j1 at hf
    refine W.ret ?_
    have hr := Option.some.inj hf; subst hr
    exact ⟨_, resOk_one rfl h4_2, (), rfl, (hs.mask []).pick []⟩
  refine W.region ?_
  refine WL.move (v := .int .i64 x1) rfl ?_
  refine WL.bin (v := .bool (decide (101 ≤ x1))) rfl rfl (ib_geq _ _ _) ?_
  refine WL.move (v := .bool (decide (101 ≤ x1))) rfl ?_
  rcases iteE hf with ⟨hc7, hf⟩ | ⟨hc7, hf⟩
  {
  refine WL.move (v := .int .i64 x1) rfl ?_ (hg := (wanted_of rfl rfl (bool_tr rfl hc7)).trans rfl)
  refine WL.bin (v := .bool (decide (x1 < 107))) rfl rfl (ib_lss _ _ _) ?_ (hg := (wanted_of rfl rfl (bool_tr rfl hc7)).trans rfl)
  refine WL.pickT (v := .bool (decide (x1 < 107))) (bool_tr rfl hc7) rfl ?_
  refine WL.assign (v := .bool (decide (x1 < 107))) rfl ?_
  refine WL.nil ?_
  exact Jk6 (decide (x1 < 107)) _ _ rfl ((hs.mask []).pick []) hf }
  {
  refine WL.pass ((wanted_of rfl rfl (bool_tr rfl hc7)).trans rfl) rfl ?_
  refine WL.pass ((wanted_of rfl rfl (bool_tr rfl hc7)).trans rfl) rfl ?_
  refine WL.pickF (v := .bool false) (bool_tr rfl hc7) rfl ?_
  refine WL.assign (v := .bool false) rfl ?_
  refine WL.nil ?_
  exact Jk6 false _ _ rfl ((hs.mask []).pick []) hf }
/-! elasticstore/elasticstoreref39.validOperation: function 37 -/
theorem esref39_validOperation.calls {ok : Nat → Prop} {w0 : World} {x1 : history_Operation} {v2 : Value} {r : Int} (hf : esref39_validOperation x1 = some r) (i0 : (vl t_history_Operation x1 v2).holds ok w0) :
    Calls Try.prog 37 #[v2] w0 fun e w' => ∃ v, e = .returned v ∧ ∃ y : Unit, v = .int .i64 r ∧ St ok (bz w0) w' [] [] := by
  unfold esref39_validOperation at hf
  refine calls_of_W (fn := Try.f37) (N := 30) Try.func37 rfl Try.ntmps37 rfl ?_
  have hs : St ok (bz w0) w0 [vl t_history_Operation x1 v2] [] := St.init (All.cons i0 All.nil)
  clear i0
  obtain ⟨cs3, hl4, rfl⟩ := hs.aggv (n := 6) 0 rfl rfl rfl
  refine W.seqK fun K5 hK5 => ?_
  refine W.region ?_
  refine WL.box (vs := cs3) hs rfl rfl (fun g6 w hs => ?_)
  refine WL.assign (v := .int .i64 0) rfl ?_
  refine WL.nil ?_
  refine hK5 _ _ ?_
  refine W.seqK fun K7 hK7 => ?_
  refine W.seqK fun K8 hK8 => ?_
  refine W.region ?_
  refine WL.fieldAddr (m := 0) rfl FA35_0 rfl ?_
  refine WL.loadF (z := x1.Process) F_history_Operation_Process hs 0 rfl 0 rfl rfl TI3 (.inr rfl) rfl rfl (fun v9 hs => ?_)
  obtain rfl := hs.int 0 rfl
  obtain ⟨x10, hxx10, hf⟩ := bindE hf
  refine WL.call (vs := [.int .i64 x1.Process]) hs FN53 ⟨rfl, trivial⟩ (fun ok hA => esref06_Client.calls (x1 := x1.Process) hxx10) ?_
  rintro _ w hs
  refine WL.not rfl ?_
  refine WL.nil ?_
  refine hK8 _ _ ?_
  rcases iteE hf with ⟨hc11, hf⟩ | ⟨hc11, hf⟩
  {
  refine W.cond_true (bool_tr rfl hc11) ?_
  refine W.seqK fun K12 hK12 => ?_
  refine W.region ?_
  refine WL.assign (v := .int .i64 9) rfl ?_
  refine WL.nil ?_
  refine hK12 _ _ ?_
  refine W.ret ?_
  have hr := Option.some.inj hf; subst hr
  exact ⟨_, resOk_one rfl rfl, (), rfl, (hs.mask []).pick []⟩ }
  {
  refine W.cond_false (bool_tr rfl hc11) ?_
  refine W.skip ?_
  refine hK7 _ _ ?_
  refine W.seqK fun K13 hK13 => ?_
  refine W.seqK fun K14 hK14 => ?_
  have Jk17 : ∀ (x16 : Bool) (ρ : Env) (w : World), ρ 1 = .pointer (some ⟨g6, 0, none⟩) → ρ 14 = .bool x16 → St ok (bz w0) w [vl t_history_Operation x1 (.agg cs3.toArray)] [blk g6 35 cs3] → esref39_validOperation.j2 x1 x16 = some r → K14 ρ w := by
    intro x16 ρ w h15_1 h15_14 hs hf
    refine hK14 _ _ ?_
    unfold esref39_validOperation.j2 at hf
    rcases iteE hf with ⟨hc18, hf⟩ | ⟨hc18, hf⟩
    {
    refine W.cond_true (bool_tr h15_14 hc18) ?_
    refine W.seqK fun K19 hK19 => ?_
    refine W.region ?_
    refine WL.assign (v := .int .i64 10) rfl ?_
    refine WL.nil ?_
    refine hK19 _ _ ?_
    refine W.ret ?_
    have hr := Option.some.inj hf; subst hr
    exact ⟨_, resOk_one rfl rfl, (), rfl, (hs.mask []).pick []⟩ }
    {
    refine W.cond_false (bool_tr h15_14 hc18) ?_
    refine W.skip ?_
    refine hK13 _ _ ?_
    refine W.seqK fun K20 hK20 => ?_
    refine W.seqK fun K21 hK21 => ?_
    have Jk24 : ∀ (x23 : Bool) (ρ : Env) (w : World), ρ 29 = .bool x23 → St ok (bz w0) w [] [] → esref39_validOperation.j1 x23 = some r → K21 ρ w := by
      intro x23 ρ w h22_29 hs hf
      refine hK21 _ _ ?_
      unfold esref39_validOperation.j1 at hf
      rcases iteE hf with ⟨hc25, hf⟩ | ⟨hc25, hf⟩
      {
      refine W.cond_true (bool_tr h22_29 hc25) ?_
      refine W.seqK fun K26 hK26 => ?_
      refine W.region ?_
      refine WL.assign (v := .int .i64 9) rfl ?_
      refine WL.nil ?_
      refine hK26 _ _ ?_
      refine W.ret ?_
      have hr := Option.some.inj hf; subst hr
      exact ⟨_, resOk_one rfl rfl, (), rfl, (hs.mask []).pick []⟩ }
      {
      refine W.cond_false (bool_tr h22_29 hc25) ?_
      refine W.skip ?_
      refine hK20 _ _ ?_
      refine W.seqK fun K27 hK27 => ?_
      refine W.region ?_
      refine WL.assign (v := .int .i64 0) rfl ?_
      refine WL.nil ?_
      refine hK27 _ _ ?_
      refine W.ret ?_
      have hr := Option.some.inj hf; subst hr
      exact ⟨_, resOk_one rfl rfl, (), rfl, (hs.mask []).pick []⟩ }
    refine W.region ?_
    refine WL.fieldAddr (m := 4) h15_1 FA35_4 rfl ?_
    refine WL.loadF (z := x1.Call) F_history_Operation_Call hs 0 rfl 0 rfl rfl TI3 (.inr rfl) rfl rfl (fun v28 hs => ?_)
    obtain rfl := hs.int 0 rfl
    refine WL.bin (v := .bool (decide (x1.Call < 1))) rfl rfl (ib_lss _ _ _) ?_
    refine WL.move (v := .bool (decide (x1.Call < 1))) rfl ?_
    rcases iteE hf with ⟨hc29, hf⟩ | ⟨hc29, hf⟩
    {
    refine WL.pass ((wanted_of rfl rfl (bool_tr rfl hc29)).trans rfl) rfl ?_
    refine WL.pass ((wanted_of rfl rfl (bool_tr rfl hc29)).trans rfl) rfl ?_
    refine WL.pass ((wanted_of rfl rfl (bool_tr rfl hc29)).trans rfl) rfl ?_
    refine WL.pass ((wanted_of rfl rfl (bool_tr rfl hc29)).trans rfl) rfl ?_
    refine WL.pass (wanted_undef rfl rfl rfl) rfl ?_
    refine WL.pass (wanted_undef rfl rfl rfl) rfl ?_
    refine WL.pass (wanted_undef rfl rfl rfl) rfl ?_
    refine WL.pass (wanted_undef rfl rfl rfl) rfl ?_
    refine WL.pass (wanted_undef rfl rfl rfl) rfl ?_
    refine WL.pass ((wanted_of rfl rfl (bool_tr rfl hc29)).trans rfl) rfl ?_
    refine WL.pickT (v := .bool true) (bool_tr rfl hc29) rfl ?_
    refine WL.nil ?_
    exact Jk24 true _ _ rfl ((hs.mask []).pick []) hf }
    {
    refine WL.fieldAddr (m := 5) h15_1 FA35_5 rfl ?_ (hg := (wanted_of rfl rfl (bool_tr rfl hc29)).trans rfl)
    refine WL.loadF (z := x1.Return) F_history_Operation_Return hs 0 rfl 1 rfl rfl TI3 (.inr rfl) rfl rfl (fun v30 hs => ?_) (hg := (wanted_of rfl rfl (bool_tr rfl hc29)).trans rfl)
    obtain rfl := hs.int 0 rfl
    refine WL.bin (v := .bool (x1.Return != 0)) rfl rfl (ib_neq _ _ _) ?_ (hg := (wanted_of rfl rfl (bool_tr rfl hc29)).trans rfl)
    refine WL.move (v := .bool (x1.Return != 0)) rfl ?_ (hg := (wanted_of rfl rfl (bool_tr rfl hc29)).trans rfl)
    rcases iteE hf with ⟨hc31, hf⟩ | ⟨hc31, hf⟩
    {
    refine WL.fieldAddr (m := 5) h15_1 FA35_5 rfl ?_ (hg := (wanted_of rfl rfl (bool_tr rfl hc31)).trans rfl)
    refine WL.loadF (z := x1.Return) F_history_Operation_Return hs 0 rfl 2 rfl rfl TI3 (.inr rfl) rfl rfl (fun v32 hs => ?_) (hg := (wanted_of rfl rfl (bool_tr rfl hc31)).trans rfl)
    obtain rfl := hs.int 0 rfl
    refine WL.fieldAddr (m := 4) h15_1 FA35_4 rfl ?_ (hg := (wanted_of rfl rfl (bool_tr rfl hc31)).trans rfl)
    refine WL.loadF (z := x1.Call) F_history_Operation_Call hs 0 rfl 3 rfl rfl TI3 (.inr rfl) rfl rfl (fun v33 hs => ?_) (hg := (wanted_of rfl rfl (bool_tr rfl hc31)).trans rfl)
    obtain rfl := hs.int 0 rfl
    refine WL.bin (v := .bool (decide (x1.Return ≤ x1.Call))) rfl rfl (ib_leq _ _ _) ?_ (hg := (wanted_of rfl rfl (bool_tr rfl hc31)).trans rfl)
    refine WL.pickT (v := .bool (decide (x1.Return ≤ x1.Call))) (bool_tr rfl hc31) rfl ?_ (hg := (wanted_of rfl rfl (bool_tr rfl hc29)).trans rfl)
    refine WL.pickF (v := .bool (decide (x1.Return ≤ x1.Call))) (bool_tr rfl hc29) rfl ?_
    refine WL.nil ?_
    exact Jk24 (decide (x1.Return ≤ x1.Call)) _ _ rfl ((hs.mask []).pick []) hf }
    {
    refine WL.pass ((wanted_of rfl rfl (bool_tr rfl hc31)).trans rfl) rfl ?_
    refine WL.pass ((wanted_of rfl rfl (bool_tr rfl hc31)).trans rfl) rfl ?_
    refine WL.pass ((wanted_of rfl rfl (bool_tr rfl hc31)).trans rfl) rfl ?_
    refine WL.pass ((wanted_of rfl rfl (bool_tr rfl hc31)).trans rfl) rfl ?_
    refine WL.pass ((wanted_of rfl rfl (bool_tr rfl hc31)).trans rfl) rfl ?_
    refine WL.pickF (v := .bool false) (bool_tr rfl hc31) rfl ?_ (hg := (wanted_of rfl rfl (bool_tr rfl hc29)).trans rfl)
    refine WL.pickF (v := .bool false) (bool_tr rfl hc29) rfl ?_
    refine WL.nil ?_
    exact Jk24 false _ _ rfl ((hs.mask []).pick []) hf } } }
  refine W.region ?_
  refine WL.fieldAddr (m := 1) rfl FA35_1 rfl ?_
  refine WL.loadF (z := x1.Kind) F_history_Operation_Kind hs 0 rfl 1 rfl rfl TI3 (.inr rfl) rfl rfl (fun v34 hs => ?_)
  obtain rfl := hs.int 0 rfl
  refine WL.bin (v := .bool (decide (x1.Kind < 1))) rfl rfl (ib_lss _ _ _) ?_
  refine WL.move (v := .bool (decide (x1.Kind < 1))) rfl ?_
  rcases iteE hf with ⟨hc35, hf⟩ | ⟨hc35, hf⟩
  {
  refine WL.pass ((wanted_of rfl rfl (bool_tr rfl hc35)).trans rfl) rfl ?_
  refine WL.pass ((wanted_of rfl rfl (bool_tr rfl hc35)).trans rfl) rfl ?_
  refine WL.pass ((wanted_of rfl rfl (bool_tr rfl hc35)).trans rfl) rfl ?_
  refine WL.pickT (v := .bool true) (bool_tr rfl hc35) rfl ?_
  refine WL.nil ?_
  exact Jk17 true _ _ rfl rfl ((hs.mask [true]).pick [2]) hf }
  {
  refine WL.fieldAddr (m := 1) rfl FA35_1 rfl ?_ (hg := (wanted_of rfl rfl (bool_tr rfl hc35)).trans rfl)
  refine WL.loadF (z := x1.Kind) F_history_Operation_Kind hs 0 rfl 2 rfl rfl TI3 (.inr rfl) rfl rfl (fun v36 hs => ?_) (hg := (wanted_of rfl rfl (bool_tr rfl hc35)).trans rfl)
  obtain rfl := hs.int 0 rfl
  refine WL.bin (v := .bool (decide (3 < x1.Kind))) rfl rfl (ib_gtr _ _ _) ?_ (hg := (wanted_of rfl rfl (bool_tr rfl hc35)).trans rfl)
  refine WL.pickF (v := .bool (decide (3 < x1.Kind))) (bool_tr rfl hc35) rfl ?_
  refine WL.nil ?_
  exact Jk17 (decide (3 < x1.Kind)) _ _ rfl rfl ((hs.mask [true]).pick [3]) hf } }
/-! elasticstore/elasticstoreref14.ValidateEffect: function 64 -/
theorem esref14_ValidateEffect.calls {ok : Nat → Prop} {w0 : World} {x1 : api_Effect} {v2 : Value} {r : Int} (hf : esref14_ValidateEffect x1 = some r) (i0 : (vl t_api_Effect x1 v2).holds ok w0) :
    Calls Try.prog 64 #[v2] w0 fun e w' => ∃ v, e = .returned v ∧ ∃ y : Unit, v = .int .i64 r ∧ St ok (bz w0) w' [] [] := by
  unfold esref14_ValidateEffect at hf
  refine calls_of_W (fn := Try.f64) (N := 85) Try.func64 rfl Try.ntmps64 rfl ?_
  have hs : St ok (bz w0) w0 [vl t_api_Effect x1 v2] [] := St.init (All.cons i0 All.nil)
  clear i0
  obtain ⟨cs3, hl4, rfl⟩ := hs.aggv (n := 5) 0 rfl rfl rfl
  refine W.seqK fun K5 hK5 => ?_
  refine W.region ?_
  refine WL.box (vs := cs3) hs rfl rfl (fun g6 w hs => ?_)
  refine WL.assign (v := .int .i64 0) rfl ?_
  refine WL.nil ?_
  refine hK5 _ _ ?_
  refine W.seqK fun K7 hK7 => ?_
  refine W.block ?_
  refine W.seqK fun K8 hK8 => ?_
  have Jk11 : ∀ (x10 : Bool) (ρ : Env) (w : World), ρ 1 = .pointer (some ⟨g6, 0, none⟩) → ρ 3 = .bool x10 → St ok (bz w0) w [vl t_api_Effect x1 (.agg cs3.toArray)] [blk g6 72 cs3] → esref14_ValidateEffect.j6 x1 x10 = some r → K8 ρ w := by
    intro x10 ρ w h9_1 h9_3 hs hf
    refine hK8 _ _ ?_
    unfold esref14_ValidateEffect.j6 at hf
    rcases iteE hf with ⟨hc12, hf⟩ | ⟨hc12, hf⟩
    {
    refine W.cond_true (bool_tr h9_3 hc12) ?_
    refine W.seqK fun K13 hK13 => ?_
    refine W.region ?_
    refine WL.assign (v := .int .i64 10) rfl ?_
    refine WL.nil ?_
    refine hK13 _ _ ?_
    refine W.ret ?_
    have hr := Option.some.inj hf; subst hr
    exact ⟨_, resOk_one rfl rfl, (), rfl, (hs.mask []).pick []⟩ }
    {
    refine W.cond_false (bool_tr h9_3 hc12) ?_
    refine W.seqK fun K14 hK14 => ?_
    have Jk17 : ∀ (x16 : Bool) (ρ : Env) (w : World), ρ 1 = .pointer (some ⟨g6, 0, none⟩) → ρ 12 = .bool x16 → St ok (bz w0) w [vl t_api_Effect x1 (.agg cs3.toArray)] [blk g6 72 cs3] → esref14_ValidateEffect.j5 x1 x16 = some r → K14 ρ w := by
      intro x16 ρ w h15_1 h15_12 hs hf
      refine hK14 _ _ ?_
      unfold esref14_ValidateEffect.j5 at hf
      rcases iteE hf with ⟨hc18, hf⟩ | ⟨hc18, hf⟩
      {
      refine W.cond_true (bool_tr h15_12 hc18) ?_
      refine W.seqK fun K19 hK19 => ?_
      refine W.region ?_
      refine WL.assign (v := .int .i64 2) rfl ?_
      refine WL.nil ?_
      refine hK19 _ _ ?_
      refine W.ret ?_
      have hr := Option.some.inj hf; subst hr
      exact ⟨_, resOk_one rfl rfl, (), rfl, (hs.mask []).pick []⟩ }
      {
      refine W.cond_false (bool_tr h15_12 hc18) ?_
      refine W.seqK fun K20 hK20 => ?_
      have Jk23 : ∀ (x22 : Bool) (ρ : Env) (w : World), ρ 1 = .pointer (some ⟨g6, 0, none⟩) → ρ 21 = .bool x22 → St ok (bz w0) w [vl t_api_Effect x1 (.agg cs3.toArray)] [blk g6 72 cs3] → esref14_ValidateEffect.j4 x1 x22 = some r → K20 ρ w := by
        intro x22 ρ w h21_1 h21_21 hs hf
        refine hK20 _ _ ?_
        unfold esref14_ValidateEffect.j4 at hf
        rcases iteE hf with ⟨hc24, hf⟩ | ⟨hc24, hf⟩
        {
        refine W.cond_true (bool_tr h21_21 hc24) ?_
        refine W.seqK fun K25 hK25 => ?_
        refine W.region ?_
        refine WL.assign (v := .int .i64 3) rfl ?_
        refine WL.nil ?_
        refine hK25 _ _ ?_
        refine W.ret ?_
        have hr := Option.some.inj hf; subst hr
        exact ⟨_, resOk_one rfl rfl, (), rfl, (hs.mask []).pick []⟩ }
        {
        refine W.cond_false (bool_tr h21_21 hc24) ?_
        refine W.seqK fun K26 hK26 => ?_
        have Jk29 : ∀ (x28 : Bool) (ρ : Env) (w : World), ρ 1 = .pointer (some ⟨g6, 0, none⟩) → ρ 38 = .bool x28 → St ok (bz w0) w [vl t_api_Effect x1 (.agg cs3.toArray)] [blk g6 72 cs3] → esref14_ValidateEffect.j3 x1 x28 = some r → K26 ρ w := by
          intro x28 ρ w h27_1 h27_38 hs hf
          refine hK26 _ _ ?_
          unfold esref14_ValidateEffect.j3 at hf
          rcases iteE hf with ⟨hc30, hf⟩ | ⟨hc30, hf⟩
          {
          refine W.cond_true (bool_tr h27_38 hc30) ?_
          refine W.seqK fun K31 hK31 => ?_
          refine W.region ?_
          refine WL.assign (v := .int .i64 9) rfl ?_
          refine WL.nil ?_
          refine hK31 _ _ ?_
          refine W.ret ?_
          have hr := Option.some.inj hf; subst hr
          exact ⟨_, resOk_one rfl rfl, (), rfl, (hs.mask []).pick []⟩ }
          {
          refine W.cond_false (bool_tr h27_38 hc30) ?_
          refine W.seqK fun K32 hK32 => ?_
          have Jk35 : ∀ (x34 : Bool) (ρ : Env) (w : World), ρ 1 = .pointer (some ⟨g6, 0, none⟩) → ρ 52 = .bool x34 → St ok (bz w0) w [vl t_api_Effect x1 (.agg cs3.toArray)] [blk g6 72 cs3] → esref14_ValidateEffect.j2 x1 x34 = some r → K32 ρ w := by
            intro x34 ρ w h33_1 h33_52 hs hf
            refine hK32 _ _ ?_
            unfold esref14_ValidateEffect.j2 at hf
            rcases iteE hf with ⟨hc36, hf⟩ | ⟨hc36, hf⟩
            {
            refine W.cond_true (bool_tr h33_52 hc36) ?_
            refine W.seqK fun K37 hK37 => ?_
            refine W.region ?_
            refine WL.assign (v := .int .i64 9) rfl ?_
            refine WL.nil ?_
            refine hK37 _ _ ?_
            refine W.ret ?_
            have hr := Option.some.inj hf; subst hr
            exact ⟨_, resOk_one rfl rfl, (), rfl, (hs.mask []).pick []⟩ }
            {
            refine W.cond_false (bool_tr h33_52 hc36) ?_
            refine W.seqK fun K38 hK38 => ?_
            have Jk41 : ∀ (x40 : Bool) (ρ : Env) (w : World), ρ 66 = .bool x40 → St ok (bz w0) w [] [] → esref14_ValidateEffect.j1 x40 = some r → K38 ρ w := by
              intro x40 ρ w h39_66 hs hf
              refine hK38 _ _ ?_
              unfold esref14_ValidateEffect.j1 at hf
              rcases iteE hf with ⟨hc42, hf⟩ | ⟨hc42, hf⟩
              {
              refine W.cond_true (bool_tr h39_66 hc42) ?_
              refine W.seqK fun K43 hK43 => ?_
              refine W.region ?_
              refine WL.assign (v := .int .i64 2) rfl ?_
              refine WL.nil ?_
              refine hK43 _ _ ?_
              refine W.ret ?_
              have hr := Option.some.inj hf; subst hr
              exact ⟨_, resOk_one rfl rfl, (), rfl, (hs.mask []).pick []⟩ }
              {
              refine W.cond_false (bool_tr h39_66 hc42) ?_
              refine W.skip ?_
              refine hK7 _ _ ?_
              refine W.seqK fun K44 hK44 => ?_
              refine W.region ?_
              refine WL.assign (v := .int .i64 0) rfl ?_
              refine WL.nil ?_
              refine hK44 _ _ ?_
              refine W.ret ?_
              have hr := Option.some.inj hf; subst hr
              exact ⟨_, resOk_one rfl rfl, (), rfl, (hs.mask []).pick []⟩ }
            refine W.region ?_
            refine WL.fieldAddr (m := 0) h33_1 FA72_0 rfl ?_
            refine WL.loadF (z := x1.Kind) F_api_Effect_Kind hs 0 rfl 0 rfl rfl TI3 (.inr rfl) rfl rfl (fun v45 hs => ?_)
            obtain rfl := hs.int 0 rfl
            refine WL.bin (v := .bool (x1.Kind == 2)) rfl rfl (ib_eql _ _ _) ?_
            refine WL.move (v := .bool (x1.Kind == 2)) rfl ?_
            rcases iteE hf with ⟨hc46, hf⟩ | ⟨hc46, hf⟩
            {
            refine WL.pass ((wanted_of rfl rfl (bool_tr rfl hc46)).trans rfl) rfl ?_
            refine WL.pass ((wanted_of rfl rfl (bool_tr rfl hc46)).trans rfl) rfl ?_
            refine WL.pass ((wanted_of rfl rfl (bool_tr rfl hc46)).trans rfl) rfl ?_
            refine WL.pickT (v := .bool true) (bool_tr rfl hc46) rfl ?_
            refine WL.move (v := .bool true) rfl ?_
            refine WL.pass ((wanted_of rfl rfl rfl).trans rfl) rfl ?_
            refine WL.pass ((wanted_of rfl rfl rfl).trans rfl) rfl ?_
            refine WL.pass ((wanted_of rfl rfl rfl).trans rfl) rfl ?_
            refine WL.pickT (v := .bool true) rfl rfl ?_
            refine WL.move (v := .bool true) rfl ?_
            refine WL.fieldAddr (m := 4) h33_1 FA72_4 rfl ?_ (hg := (wanted_of rfl rfl rfl).trans rfl)
            refine WL.loadF (z := x1.S) F_api_Effect_S hs 0 rfl 1 rfl rfl TI9 (.inr rfl) rfl rfl (fun v47 hs => ?_) (hg := (wanted_of rfl rfl rfl).trans rfl)
            obtain rfl := hs.str 0 rfl
            refine WL.binS (v := .bool (x1.S != ([] : List UInt8))) rfl rfl (sb_neq _ _) ?_ (hg := (wanted_of rfl rfl rfl).trans rfl)
            refine WL.pickT (v := .bool (x1.S != ([] : List UInt8))) rfl rfl ?_
            refine WL.assign (v := .bool (x1.S != ([] : List UInt8))) rfl ?_
            refine WL.nil ?_
            exact Jk41 (x1.S != ([] : List UInt8)) _ _ rfl ((hs.mask []).pick []) hf }
            {
            refine WL.fieldAddr (m := 0) h33_1 FA72_0 rfl ?_ (hg := (wanted_of rfl rfl (bool_tr rfl hc46)).trans rfl)
            refine WL.loadF (z := x1.Kind) F_api_Effect_Kind hs 0 rfl 1 rfl rfl TI3 (.inr rfl) rfl rfl (fun v48 hs => ?_) (hg := (wanted_of rfl rfl (bool_tr rfl hc46)).trans rfl)
            obtain rfl := hs.int 0 rfl
            refine WL.bin (v := .bool (x1.Kind == 3)) rfl rfl (ib_eql _ _ _) ?_ (hg := (wanted_of rfl rfl (bool_tr rfl hc46)).trans rfl)
            refine WL.pickF (v := .bool (x1.Kind == 3)) (bool_tr rfl hc46) rfl ?_
            refine WL.move (v := .bool (x1.Kind == 3)) rfl ?_
            rcases iteE hf with ⟨hc49, hf⟩ | ⟨hc49, hf⟩
            {
            refine WL.pass ((wanted_of rfl rfl (bool_tr rfl hc49)).trans rfl) rfl ?_
            refine WL.pass ((wanted_of rfl rfl (bool_tr rfl hc49)).trans rfl) rfl ?_
            refine WL.pass ((wanted_of rfl rfl (bool_tr rfl hc49)).trans rfl) rfl ?_
            refine WL.pickT (v := .bool true) (bool_tr rfl hc49) rfl ?_
            refine WL.move (v := .bool true) rfl ?_
            refine WL.fieldAddr (m := 4) h33_1 FA72_4 rfl ?_ (hg := (wanted_of rfl rfl rfl).trans rfl)
            refine WL.loadF (z := x1.S) F_api_Effect_S hs 0 rfl 2 rfl rfl TI9 (.inr rfl) rfl rfl (fun v50 hs => ?_) (hg := (wanted_of rfl rfl rfl).trans rfl)
            obtain rfl := hs.str 0 rfl
            refine WL.binS (v := .bool (x1.S != ([] : List UInt8))) rfl rfl (sb_neq _ _) ?_ (hg := (wanted_of rfl rfl rfl).trans rfl)
            refine WL.pickT (v := .bool (x1.S != ([] : List UInt8))) rfl rfl ?_
            refine WL.assign (v := .bool (x1.S != ([] : List UInt8))) rfl ?_
            refine WL.nil ?_
            exact Jk41 (x1.S != ([] : List UInt8)) _ _ rfl ((hs.mask []).pick []) hf }
            {
            refine WL.fieldAddr (m := 0) h33_1 FA72_0 rfl ?_ (hg := (wanted_of rfl rfl (bool_tr rfl hc49)).trans rfl)
            refine WL.loadF (z := x1.Kind) F_api_Effect_Kind hs 0 rfl 2 rfl rfl TI3 (.inr rfl) rfl rfl (fun v51 hs => ?_) (hg := (wanted_of rfl rfl (bool_tr rfl hc49)).trans rfl)
            obtain rfl := hs.int 0 rfl
            refine WL.bin (v := .bool (x1.Kind == 5)) rfl rfl (ib_eql _ _ _) ?_ (hg := (wanted_of rfl rfl (bool_tr rfl hc49)).trans rfl)
            refine WL.pickF (v := .bool (x1.Kind == 5)) (bool_tr rfl hc49) rfl ?_
            refine WL.move (v := .bool (x1.Kind == 5)) rfl ?_
            rcases iteE hf with ⟨hc52, hf⟩ | ⟨hc52, hf⟩
            {
            refine WL.fieldAddr (m := 4) h33_1 FA72_4 rfl ?_ (hg := (wanted_of rfl rfl (bool_tr rfl hc52)).trans rfl)
            refine WL.loadF (z := x1.S) F_api_Effect_S hs 0 rfl 3 rfl rfl TI9 (.inr rfl) rfl rfl (fun v53 hs => ?_) (hg := (wanted_of rfl rfl (bool_tr rfl hc52)).trans rfl)
            obtain rfl := hs.str 0 rfl
            refine WL.binS (v := .bool (x1.S != ([] : List UInt8))) rfl rfl (sb_neq _ _) ?_ (hg := (wanted_of rfl rfl (bool_tr rfl hc52)).trans rfl)
            refine WL.pickT (v := .bool (x1.S != ([] : List UInt8))) (bool_tr rfl hc52) rfl ?_
            refine WL.assign (v := .bool (x1.S != ([] : List UInt8))) rfl ?_
            refine WL.nil ?_
            exact Jk41 (x1.S != ([] : List UInt8)) _ _ rfl ((hs.mask []).pick []) hf }
            {
            refine WL.pass ((wanted_of rfl rfl (bool_tr rfl hc52)).trans rfl) rfl ?_
            refine WL.pass ((wanted_of rfl rfl (bool_tr rfl hc52)).trans rfl) rfl ?_
            refine WL.pass ((wanted_of rfl rfl (bool_tr rfl hc52)).trans rfl) rfl ?_
            refine WL.pickF (v := .bool false) (bool_tr rfl hc52) rfl ?_
            refine WL.assign (v := .bool false) rfl ?_
            refine WL.nil ?_
            exact Jk41 false _ _ rfl ((hs.mask []).pick []) hf } } } }
          refine W.region ?_
          refine WL.fieldAddr (m := 0) h27_1 FA72_0 rfl ?_
          refine WL.loadF (z := x1.Kind) F_api_Effect_Kind hs 0 rfl 0 rfl rfl TI3 (.inr rfl) rfl rfl (fun v54 hs => ?_)
          obtain rfl := hs.int 0 rfl
          refine WL.bin (v := .bool (x1.Kind == 4)) rfl rfl (ib_eql _ _ _) ?_
          refine WL.move (v := .bool (x1.Kind == 4)) rfl ?_
          rcases iteE hf with ⟨hc55, hf⟩ | ⟨hc55, hf⟩
          {
          refine WL.pass ((wanted_of rfl rfl (bool_tr rfl hc55)).trans rfl) rfl ?_
          refine WL.pass ((wanted_of rfl rfl (bool_tr rfl hc55)).trans rfl) rfl ?_
          refine WL.pass ((wanted_of rfl rfl (bool_tr rfl hc55)).trans rfl) rfl ?_
          refine WL.pickT (v := .bool true) (bool_tr rfl hc55) rfl ?_
          refine WL.move (v := .bool true) rfl ?_
          refine WL.fieldAddr (m := 3) h27_1 FA72_3 rfl ?_ (hg := (wanted_of rfl rfl rfl).trans rfl)
          refine WL.loadF (z := x1.N) F_api_Effect_N hs 0 rfl 1 rfl rfl TI2 (.inr rfl) rfl rfl (fun v56 hs => ?_) (hg := (wanted_of rfl rfl rfl).trans rfl)
          obtain rfl := hs.int 0 rfl
          refine WL.bin (v := .bool (x1.N != 0)) rfl rfl (ib_neq _ _ _) ?_ (hg := (wanted_of rfl rfl rfl).trans rfl)
          refine WL.pickT (v := .bool (x1.N != 0)) rfl rfl ?_
          refine WL.assign (v := .bool (x1.N != 0)) rfl ?_
          refine WL.nil ?_
          exact Jk35 (x1.N != 0) _ _ h27_1 rfl ((hs.mask [true]).pick [2]) hf }
          {
          refine WL.fieldAddr (m := 0) h27_1 FA72_0 rfl ?_ (hg := (wanted_of rfl rfl (bool_tr rfl hc55)).trans rfl)
          refine WL.loadF (z := x1.Kind) F_api_Effect_Kind hs 0 rfl 1 rfl rfl TI3 (.inr rfl) rfl rfl (fun v57 hs => ?_) (hg := (wanted_of rfl rfl (bool_tr rfl hc55)).trans rfl)
          obtain rfl := hs.int 0 rfl
          refine WL.bin (v := .bool (x1.Kind == 5)) rfl rfl (ib_eql _ _ _) ?_ (hg := (wanted_of rfl rfl (bool_tr rfl hc55)).trans rfl)
          refine WL.pickF (v := .bool (x1.Kind == 5)) (bool_tr rfl hc55) rfl ?_
          refine WL.move (v := .bool (x1.Kind == 5)) rfl ?_
          rcases iteE hf with ⟨hc58, hf⟩ | ⟨hc58, hf⟩
          {
          refine WL.fieldAddr (m := 3) h27_1 FA72_3 rfl ?_ (hg := (wanted_of rfl rfl (bool_tr rfl hc58)).trans rfl)
          refine WL.loadF (z := x1.N) F_api_Effect_N hs 0 rfl 2 rfl rfl TI2 (.inr rfl) rfl rfl (fun v59 hs => ?_) (hg := (wanted_of rfl rfl (bool_tr rfl hc58)).trans rfl)
          obtain rfl := hs.int 0 rfl
          refine WL.bin (v := .bool (x1.N != 0)) rfl rfl (ib_neq _ _ _) ?_ (hg := (wanted_of rfl rfl (bool_tr rfl hc58)).trans rfl)
          refine WL.pickT (v := .bool (x1.N != 0)) (bool_tr rfl hc58) rfl ?_
          refine WL.assign (v := .bool (x1.N != 0)) rfl ?_
          refine WL.nil ?_
          exact Jk35 (x1.N != 0) _ _ h27_1 rfl ((hs.mask [true]).pick [3]) hf }
          {
          refine WL.pass ((wanted_of rfl rfl (bool_tr rfl hc58)).trans rfl) rfl ?_
          refine WL.pass ((wanted_of rfl rfl (bool_tr rfl hc58)).trans rfl) rfl ?_
          refine WL.pass ((wanted_of rfl rfl (bool_tr rfl hc58)).trans rfl) rfl ?_
          refine WL.pickF (v := .bool false) (bool_tr rfl hc58) rfl ?_
          refine WL.assign (v := .bool false) rfl ?_
          refine WL.nil ?_
          exact Jk35 false _ _ h27_1 rfl ((hs.mask [true]).pick [2]) hf } } }
        refine W.region ?_
        refine WL.fieldAddr (m := 0) h21_1 FA72_0 rfl ?_
        refine WL.loadF (z := x1.Kind) F_api_Effect_Kind hs 0 rfl 0 rfl rfl TI3 (.inr rfl) rfl rfl (fun v60 hs => ?_)
        obtain rfl := hs.int 0 rfl
        refine WL.bin (v := .bool (x1.Kind == 3)) rfl rfl (ib_eql _ _ _) ?_
        refine WL.move (v := .bool (x1.Kind == 3)) rfl ?_
        rcases iteE hf with ⟨hc61, hf⟩ | ⟨hc61, hf⟩
        {
        refine WL.fieldAddr (m := 3) h21_1 FA72_3 rfl ?_ (hg := (wanted_of rfl rfl (bool_tr rfl hc61)).trans rfl)
        refine WL.loadF (z := x1.N) F_api_Effect_N hs 0 rfl 1 rfl rfl TI2 (.inr rfl) rfl rfl (fun v62 hs => ?_) (hg := (wanted_of rfl rfl (bool_tr rfl hc61)).trans rfl)
        obtain rfl := hs.int 0 rfl
        refine WL.bin (v := .bool (decide (x1.N < (-1000000)))) rfl rfl (ib_lss _ _ _) ?_ (hg := (wanted_of rfl rfl (bool_tr rfl hc61)).trans rfl)
        refine WL.move (v := .bool (decide (x1.N < (-1000000)))) rfl ?_ (hg := (wanted_of rfl rfl (bool_tr rfl hc61)).trans rfl)
        rcases iteE hf with ⟨hc63, hf⟩ | ⟨hc63, hf⟩
        {
        refine WL.pass ((wanted_of rfl rfl (bool_tr rfl hc63)).trans rfl) rfl ?_
        refine WL.pass ((wanted_of rfl rfl (bool_tr rfl hc63)).trans rfl) rfl ?_
        refine WL.pass ((wanted_of rfl rfl (bool_tr rfl hc63)).trans rfl) rfl ?_
        refine WL.pickT (v := .bool true) (bool_tr rfl hc63) rfl ?_ (hg := (wanted_of rfl rfl (bool_tr rfl hc61)).trans rfl)
        refine WL.pickT (v := .bool true) (bool_tr rfl hc61) rfl ?_
        refine WL.assign (v := .bool true) rfl ?_
        refine WL.nil ?_
        exact Jk29 true _ _ h21_1 rfl ((hs.mask [true]).pick [2]) hf }
        {
        refine WL.fieldAddr (m := 3) h21_1 FA72_3 rfl ?_ (hg := (wanted_of rfl rfl (bool_tr rfl hc63)).trans rfl)
        refine WL.loadF (z := x1.N) F_api_Effect_N hs 0 rfl 2 rfl rfl TI2 (.inr rfl) rfl rfl (fun v64 hs => ?_) (hg := (wanted_of rfl rfl (bool_tr rfl hc63)).trans rfl)
        obtain rfl := hs.int 0 rfl
        refine WL.bin (v := .bool (decide (1000000 < x1.N))) rfl rfl (ib_gtr _ _ _) ?_ (hg := (wanted_of rfl rfl (bool_tr rfl hc63)).trans rfl)
        refine WL.pickF (v := .bool (decide (1000000 < x1.N))) (bool_tr rfl hc63) rfl ?_ (hg := (wanted_of rfl rfl (bool_tr rfl hc61)).trans rfl)
        refine WL.pickT (v := .bool (decide (1000000 < x1.N))) (bool_tr rfl hc61) rfl ?_
        refine WL.assign (v := .bool (decide (1000000 < x1.N))) rfl ?_
        refine WL.nil ?_
        exact Jk29 (decide (1000000 < x1.N)) _ _ h21_1 rfl ((hs.mask [true]).pick [3]) hf } }
        {
        refine WL.pass ((wanted_of rfl rfl (bool_tr rfl hc61)).trans rfl) rfl ?_
        refine WL.pass ((wanted_of rfl rfl (bool_tr rfl hc61)).trans rfl) rfl ?_
        refine WL.pass ((wanted_of rfl rfl (bool_tr rfl hc61)).trans rfl) rfl ?_
        refine WL.pass ((wanted_of rfl rfl (bool_tr rfl hc61)).trans rfl) rfl ?_
        refine WL.pass (wanted_undef rfl rfl rfl) rfl ?_
        refine WL.pass (wanted_undef rfl rfl rfl) rfl ?_
        refine WL.pass (wanted_undef rfl rfl rfl) rfl ?_
        refine WL.pass ((wanted_of rfl rfl (bool_tr rfl hc61)).trans rfl) rfl ?_
        refine WL.pickF (v := .bool false) (bool_tr rfl hc61) rfl ?_
        refine WL.assign (v := .bool false) rfl ?_
        refine WL.nil ?_
        exact Jk29 false _ _ h21_1 rfl ((hs.mask [true]).pick [1]) hf } }
      refine W.region ?_
      refine WL.fieldAddr (m := 1) h15_1 FA72_1 rfl ?_
      refine WL.loadF (z := x1.Object) F_api_Effect_Object hs 0 rfl 0 rfl rfl TI9 (.inr rfl) rfl rfl (fun v65 hs => ?_)
      obtain rfl := hs.str 0 rfl
      refine WL.len (v := bstr x1.Object) rfl (len_string UN9) ?_
      refine WL.bin (v := .bool (decide (16 < ((x1.Object).length : Int)))) rfl rfl (ib_gtr _ _ _) ?_
      refine WL.move (v := .bool (decide (16 < ((x1.Object).length : Int)))) rfl ?_
      rcases iteE hf with ⟨hc66, hf⟩ | ⟨hc66, hf⟩
      {
      refine WL.pass ((wanted_of rfl rfl (bool_tr rfl hc66)).trans rfl) rfl ?_
      refine WL.pass ((wanted_of rfl rfl (bool_tr rfl hc66)).trans rfl) rfl ?_
      refine WL.pass ((wanted_of rfl rfl (bool_tr rfl hc66)).trans rfl) rfl ?_
      refine WL.pass ((wanted_of rfl rfl (bool_tr rfl hc66)).trans rfl) rfl ?_
      refine WL.pickT (v := .bool true) (bool_tr rfl hc66) rfl ?_
      refine WL.move (v := .bool true) rfl ?_
      refine WL.pass ((wanted_of rfl rfl rfl).trans rfl) rfl ?_
      refine WL.pass ((wanted_of rfl rfl rfl).trans rfl) rfl ?_
      refine WL.pass ((wanted_of rfl rfl rfl).trans rfl) rfl ?_
      refine WL.pass ((wanted_of rfl rfl rfl).trans rfl) rfl ?_
      refine WL.pickT (v := .bool true) rfl rfl ?_
      refine WL.assign (v := .bool true) rfl ?_
      refine WL.nil ?_
      exact Jk23 true _ _ h15_1 rfl ((hs.mask [true]).pick [1]) hf }
      {
      refine WL.fieldAddr (m := 2) h15_1 FA72_2 rfl ?_ (hg := (wanted_of rfl rfl (bool_tr rfl hc66)).trans rfl)
      refine WL.loadF (z := x1.Field) F_api_Effect_Field hs 0 rfl 1 rfl rfl TI9 (.inr rfl) rfl rfl (fun v67 hs => ?_) (hg := (wanted_of rfl rfl (bool_tr rfl hc66)).trans rfl)
      obtain rfl := hs.str 0 rfl
      refine WL.len (v := bstr x1.Field) rfl (len_string UN9) ?_ (hg := (wanted_of rfl rfl (bool_tr rfl hc66)).trans rfl)
      refine WL.bin (v := .bool (decide (16 < ((x1.Field).length : Int)))) rfl rfl (ib_gtr _ _ _) ?_ (hg := (wanted_of rfl rfl (bool_tr rfl hc66)).trans rfl)
      refine WL.pickF (v := .bool (decide (16 < ((x1.Field).length : Int)))) (bool_tr rfl hc66) rfl ?_
      refine WL.move (v := .bool (decide (16 < ((x1.Field).length : Int)))) rfl ?_
      rcases iteE hf with ⟨hc68, hf⟩ | ⟨hc68, hf⟩
      {
      refine WL.pass ((wanted_of rfl rfl (bool_tr rfl hc68)).trans rfl) rfl ?_
      refine WL.pass ((wanted_of rfl rfl (bool_tr rfl hc68)).trans rfl) rfl ?_
      refine WL.pass ((wanted_of rfl rfl (bool_tr rfl hc68)).trans rfl) rfl ?_
      refine WL.pass ((wanted_of rfl rfl (bool_tr rfl hc68)).trans rfl) rfl ?_
      refine WL.pickT (v := .bool true) (bool_tr rfl hc68) rfl ?_
      refine WL.assign (v := .bool true) rfl ?_
      refine WL.nil ?_
      exact Jk23 true _ _ h15_1 rfl ((hs.mask [true]).pick [2]) hf }
      {
      refine WL.fieldAddr (m := 4) h15_1 FA72_4 rfl ?_ (hg := (wanted_of rfl rfl (bool_tr rfl hc68)).trans rfl)
      refine WL.loadF (z := x1.S) F_api_Effect_S hs 0 rfl 2 rfl rfl TI9 (.inr rfl) rfl rfl (fun v69 hs => ?_) (hg := (wanted_of rfl rfl (bool_tr rfl hc68)).trans rfl)
      obtain rfl := hs.str 0 rfl
      refine WL.len (v := bstr x1.S) rfl (len_string UN9) ?_ (hg := (wanted_of rfl rfl (bool_tr rfl hc68)).trans rfl)
      refine WL.bin (v := .bool (decide (32 < ((x1.S).length : Int)))) rfl rfl (ib_gtr _ _ _) ?_ (hg := (wanted_of rfl rfl (bool_tr rfl hc68)).trans rfl)
      refine WL.pickF (v := .bool (decide (32 < ((x1.S).length : Int)))) (bool_tr rfl hc68) rfl ?_
      refine WL.assign (v := .bool (decide (32 < ((x1.S).length : Int)))) rfl ?_
      refine WL.nil ?_
      exact Jk23 (decide (32 < ((x1.S).length : Int))) _ _ h15_1 rfl ((hs.mask [true]).pick [3]) hf } } }
    refine W.region ?_
    refine WL.fieldAddr (m := 1) h9_1 FA72_1 rfl ?_
    refine WL.loadF (z := x1.Object) F_api_Effect_Object hs 0 rfl 0 rfl rfl TI9 (.inr rfl) rfl rfl (fun v70 hs => ?_)
    obtain rfl := hs.str 0 rfl
    refine WL.binS (v := .bool (x1.Object == ([] : List UInt8))) rfl rfl (sb_eql _ _) ?_
    refine WL.move (v := .bool (x1.Object == ([] : List UInt8))) rfl ?_
    rcases iteE hf with ⟨hc71, hf⟩ | ⟨hc71, hf⟩
    {
    refine WL.pass ((wanted_of rfl rfl (bool_tr rfl hc71)).trans rfl) rfl ?_
    refine WL.pass ((wanted_of rfl rfl (bool_tr rfl hc71)).trans rfl) rfl ?_
    refine WL.pass ((wanted_of rfl rfl (bool_tr rfl hc71)).trans rfl) rfl ?_
    refine WL.pickT (v := .bool true) (bool_tr rfl hc71) rfl ?_
    refine WL.assign (v := .bool true) rfl ?_
    refine WL.nil ?_
    exact Jk17 true _ _ h9_1 rfl ((hs.mask [true]).pick [1]) hf }
    {
    refine WL.fieldAddr (m := 2) h9_1 FA72_2 rfl ?_ (hg := (wanted_of rfl rfl (bool_tr rfl hc71)).trans rfl)
    refine WL.loadF (z := x1.Field) F_api_Effect_Field hs 0 rfl 1 rfl rfl TI9 (.inr rfl) rfl rfl (fun v72 hs => ?_) (hg := (wanted_of rfl rfl (bool_tr rfl hc71)).trans rfl)
    obtain rfl := hs.str 0 rfl
    refine WL.binS (v := .bool (x1.Field == ([] : List UInt8))) rfl rfl (sb_eql _ _) ?_ (hg := (wanted_of rfl rfl (bool_tr rfl hc71)).trans rfl)
    refine WL.pickF (v := .bool (x1.Field == ([] : List UInt8))) (bool_tr rfl hc71) rfl ?_
    refine WL.assign (v := .bool (x1.Field == ([] : List UInt8))) rfl ?_
    refine WL.nil ?_
    exact Jk17 (x1.Field == ([] : List UInt8)) _ _ h9_1 rfl ((hs.mask [true]).pick [2]) hf } }
  refine W.region ?_
  refine WL.fieldAddr (m := 0) rfl FA72_0 rfl ?_
  refine WL.loadF (z := x1.Kind) F_api_Effect_Kind hs 0 rfl 0 rfl rfl TI3 (.inr rfl) rfl rfl (fun v73 hs => ?_)
  obtain rfl := hs.int 0 rfl
  refine WL.bin (v := .bool (decide (x1.Kind < 1))) rfl rfl (ib_lss _ _ _) ?_
  refine WL.move (v := .bool (decide (x1.Kind < 1))) rfl ?_
  rcases iteE hf with ⟨hc74, hf⟩ | ⟨hc74, hf⟩
  {
  refine WL.pass ((wanted_of rfl rfl (bool_tr rfl hc74)).trans rfl) rfl ?_
  refine WL.pass ((wanted_of rfl rfl (bool_tr rfl hc74)).trans rfl) rfl ?_
  refine WL.pass ((wanted_of rfl rfl (bool_tr rfl hc74)).trans rfl) rfl ?_
  refine WL.pickT (v := .bool true) (bool_tr rfl hc74) rfl ?_
  refine WL.assign (v := .bool true) rfl ?_
  refine WL.nil ?_
  exact Jk11 true _ _ rfl rfl ((hs.mask [true]).pick [1]) hf }
  {
  refine WL.fieldAddr (m := 0) rfl FA72_0 rfl ?_ (hg := (wanted_of rfl rfl (bool_tr rfl hc74)).trans rfl)
  refine WL.loadF (z := x1.Kind) F_api_Effect_Kind hs 0 rfl 1 rfl rfl TI3 (.inr rfl) rfl rfl (fun v75 hs => ?_) (hg := (wanted_of rfl rfl (bool_tr rfl hc74)).trans rfl)
  obtain rfl := hs.int 0 rfl
  refine WL.bin (v := .bool (decide (5 < x1.Kind))) rfl rfl (ib_gtr _ _ _) ?_ (hg := (wanted_of rfl rfl (bool_tr rfl hc74)).trans rfl)
  refine WL.pickF (v := .bool (decide (5 < x1.Kind))) (bool_tr rfl hc74) rfl ?_
  refine WL.assign (v := .bool (decide (5 < x1.Kind))) rfl ?_
  refine WL.nil ?_
  exact Jk11 (decide (5 < x1.Kind)) _ _ rfl rfl ((hs.mask [true]).pick [2]) hf }
/-! elasticstore/elasticstoreref14.Commutes: function 65 -/
theorem esref14_Commutes.calls {ok : Nat → Prop} {w0 : World} {x1 : api_Update} {v2 : Value} {r : Bool} (hf : esref14_Commutes x1 = some r) (i0 : (vl t_api_Update x1 v2).holds ok w0) :
    Calls Try.prog 65 #[v2] w0 fun e w' => ∃ v, e = .returned v ∧ ∃ y : Unit, v = .bool r ∧ St ok (bz w0) w' [] [] := by
  unfold esref14_Commutes at hf
  refine calls_of_W (fn := Try.f65) (N := 18) Try.func65 rfl Try.ntmps65 rfl ?_
  have hs : St ok (bz w0) w0 [vl t_api_Update x1 v2] [] := St.init (All.cons i0 All.nil)
  clear i0
  obtain ⟨cs3, hl4, rfl⟩ := hs.aggv (n := 4) 0 rfl rfl rfl
  refine W.seqK fun K5 hK5 => ?_
  refine W.region ?_
  refine WL.box (vs := cs3) hs rfl rfl (fun g6 w hs => ?_)
  refine WL.assign (v := .bool false) rfl ?_
  refine WL.nil ?_
  refine hK5 _ _ ?_
  refine W.seqK fun K7 hK7 => ?_
  have Jk9 : ∀  (ρ : Env) (w : World), St ok (bz w0) w [] [] → esref14_Commutes.j1 = some r → K7 ρ w := by
    intro  ρ w  hs hf
    refine hK7 _ _ ?_
    unfold esref14_Commutes.j1 at hf
    refine W.seqK fun K10 hK10 => ?_
    refine W.region ?_
    refine WL.assign (v := .bool true) rfl ?_
    refine WL.nil ?_
    refine hK10 _ _ ?_
    refine W.ret ?_
    have hr := Option.some.inj hf; subst hr
    exact ⟨_, resOk_one rfl rfl, (), rfl, (hs.mask []).pick []⟩
  refine W.seqK fun K11 hK11 => ?_
  refine W.region ?_
  refine WL.assign (v := .int .i64 0) rfl ?_
  refine WL.nil ?_
  refine hK11 _ _ ?_
  refine W.block ?_
  obtain ⟨bs14, hbs14, hfs14⟩ := bindE hf
  refine W.loop hbs14 (fun s ρ w => match s with | x13 => ρ 1 = .pointer (some ⟨g6, 0, none⟩) ∧ ρ 3 = .int .i64 x13 ∧ St ok (bz w0) w [vl t_api_Update x1 (.agg cs3.toArray)] [blk g6 75 cs3]) ⟨rfl, rfl, (hs.mask [true]).pick [0]⟩ ?_
  intro x13 ρ w os14 hI hf hbbs14
  obtain ⟨h12_1, h12_3, hs⟩ := hI
  unfold esref14_Commutes.l1 at hf
  refine W.seqK fun K15 hK15 => ?_
  refine W.seqK fun K16 hK16 => ?_
  refine W.region ?_
  refine WL.move (v := .int .i64 x13) h12_3 ?_
  refine WL.fieldAddr (m := 3) h12_1 FA75_3 rfl ?_
  refine WL.loadF (z := x1.Effects) F_api_Update_Effects hs 0 rfl 0 rfl rfl TI30 (.inr rfl) rfl rfl (fun v17 hs => ?_)
  obtain ⟨a18, c19, rfl⟩ := hs.slice 0 rfl
  refine WL.len (v := .slice a18 (x1.Effects).length c19) rfl (len_slice UN30) ?_
  refine WL.bin (v := .bool (decide (x13 < ((x1.Effects).length : Int)))) rfl rfl (ib_lss _ _ _) ?_
  refine WL.nil ?_
  refine hK16 _ _ ?_
  rcases iteE hf with ⟨hc20, hf⟩ | ⟨hc20, hf⟩
  {
  refine W.cond_true (bool_tr rfl hc20) ?_
  refine W.skip ?_
  refine hK15 _ _ ?_
  refine W.seqK fun K21 hK21 => ?_
  refine W.block ?_
  refine W.seqK fun K22 hK22 => ?_
  refine W.region ?_
  refine WL.fieldAddr (m := 3) h12_1 FA75_3 rfl ?_
  refine WL.loadF (z := x1.Effects) F_api_Update_Effects hs 0 rfl 1 rfl rfl TI30 (.inr rfl) rfl rfl (fun v23 hs => ?_)
  obtain ⟨a24, c25, rfl⟩ := hs.slice 0 rfl
  refine WL.move (v := .int .i64 x13) h12_3 ?_
  obtain ⟨x26, hxx26, hf⟩ := bindE hf
  refine WL.indexAddr hs 0 rfl UN30 TI72 rfl rfl hxx26 (fun ad27 hs => ?_)
  refine WL.fieldAddrP (z := x26.Kind) F_api_Effect_Kind hs 0 rfl rfl FA72_0 rfl (fun ad28 hs => ?_)
  refine WL.loadP hs 0 rfl TI3 (.inr rfl) rfl (fun v29 hs => ?_)
  obtain rfl := hs.int 0 rfl
  refine WL.bin (v := .bool (x26.Kind == 1)) rfl rfl (ib_eql _ _ _) ?_
  refine WL.nil ?_
  refine hK22 _ _ ?_
  rcases iteE hf with ⟨hc30, hf⟩ | ⟨hc30, hf⟩
  {
  refine W.cond_true (bool_tr rfl hc30) ?_
  refine W.seqK fun K31 hK31 => ?_
  refine W.region ?_
  refine WL.assign (v := .bool false) rfl ?_
  refine WL.nil ?_
  refine hK31 _ _ ?_
  refine W.ret ?_
  have hr := Option.some.inj hf; subst hr
  have hr := hbbs14 _ rfl; subst hr
  have hf := hfs14
  have hr := Option.some.inj hf; subst hr
  exact ⟨_, resOk_one rfl rfl, (), rfl, (hs.mask []).pick []⟩ }
  {
  refine W.cond_false (bool_tr rfl hc30) ?_
  refine W.skip ?_
  refine hK21 _ _ ?_
  refine W.region ?_
  refine WL.move (v := .int .i64 x13) h12_3 ?_
  obtain ⟨x32, ex32, hf⟩ := letE hf
  refine WL.bin (v := .int .i64 x32) rfl rfl (ib_as ex32 (ib_add _ _ _)) ?_
  refine WL.assign (v := .int .i64 x32) rfl ?_
  refine WL.nil ?_
  exact ⟨_, (Option.some.inj hf).symm, h12_1, rfl, (hs.mask [true]).pick [5]⟩ } }
  {
  refine W.cond_false (bool_tr rfl hc20) ?_
  refine W.exit ?_
  have hr := Option.some.inj hf; subst hr
  have hr := hbbs14 _ rfl; subst hr
  have hf := hfs14
  exact Jk9  _ _  ((hs.mask []).pick []) hf }
/-! elasticstore/elasticstoreref14.ValidateUpdate: function 54 -/
theorem esref14_ValidateUpdate.calls {ok : Nat → Prop} {w0 : World} {x1 : api_Update} {v2 : Value} {r : Int} (hf : esref14_ValidateUpdate x1 = some r) (i0 : (vl t_api_Update x1 v2).holds ok w0) :
    Calls Try.prog 54 #[v2] w0 fun e w' => ∃ v, e = .returned v ∧ ∃ y : Unit, v = .int .i64 r ∧ St ok (bz w0) w' [] [] := by
  unfold esref14_ValidateUpdate at hf
  refine calls_of_W (fn := Try.f54) (N := 74) Try.func54 rfl Try.ntmps54 rfl ?_
  have hs : St ok (bz w0) w0 [vl t_api_Update x1 v2] [] := St.init (All.cons i0 All.nil)
  clear i0
  obtain ⟨cs3, hl4, rfl⟩ := hs.aggv (n := 4) 0 rfl rfl rfl
  refine W.seqK fun K5 hK5 => ?_
  refine W.region ?_
  refine WL.box (vs := cs3) hs rfl rfl (fun g6 w hs => ?_)
  refine WL.assign (v := .int .i64 0) rfl ?_
  refine WL.nil ?_
  refine hK5 _ _ ?_
  refine W.seqK fun K7 hK7 => ?_
  refine W.block ?_
  refine W.seqK fun K8 hK8 => ?_
  have Jk11 : ∀ (x10 : Bool) (ρ : Env) (w : World), ρ 1 = .pointer (some ⟨g6, 0, none⟩) → ρ 5 = .bool x10 → St ok (bz w0) w [vl t_api_Update x1 (.agg cs3.toArray)] [blk g6 75 cs3] → esref14_ValidateUpdate.j3 x1 x10 = some r → K8 ρ w := by
    intro x10 ρ w h9_1 h9_5 hs hf
    refine hK8 _ _ ?_
    unfold esref14_ValidateUpdate.j3 at hf
    rcases iteE hf with ⟨hc12, hf⟩ | ⟨hc12, hf⟩
    {
    refine W.cond_true (bool_tr h9_5 hc12) ?_
    refine W.seqK fun K13 hK13 => ?_
    refine W.region ?_
    refine WL.assign (v := .int .i64 9) rfl ?_
    refine WL.nil ?_
    refine hK13 _ _ ?_
    refine W.ret ?_
    have hr := Option.some.inj hf; subst hr
    exact ⟨_, resOk_one rfl rfl, (), rfl, (hs.mask []).pick []⟩ }
    {
    refine W.cond_false (bool_tr h9_5 hc12) ?_
    refine W.seqK fun K14 hK14 => ?_
    refine W.region ?_
    refine WL.fieldAddr (m := 3) h9_1 FA75_3 rfl ?_
    refine WL.loadF (z := x1.Effects) F_api_Update_Effects hs 0 rfl 0 rfl rfl TI30 (.inr rfl) rfl rfl (fun v15 hs => ?_)
    obtain ⟨a16, c17, rfl⟩ := hs.slice 0 rfl
    refine WL.len (v := .slice a16 (x1.Effects).length c17) rfl (len_slice UN30) ?_
    refine WL.bin (v := .bool (((x1.Effects).length : Int) == 0)) rfl rfl (ib_eql _ _ _) ?_
    refine WL.assign (v := .bool (((x1.Effects).length : Int) == 0)) rfl ?_
    refine WL.nil ?_
    refine hK14 _ _ ?_
    rcases iteE hf with ⟨hc18, hf⟩ | ⟨hc18, hf⟩
    {
    refine W.cond_true (bool_tr rfl hc18) ?_
    refine W.seqK fun K19 hK19 => ?_
    refine W.region ?_
    refine WL.assign (v := .int .i64 2) rfl ?_
    refine WL.nil ?_
    refine hK19 _ _ ?_
    refine W.ret ?_
    have hr := Option.some.inj hf; subst hr
    exact ⟨_, resOk_one rfl rfl, (), rfl, (hs.mask []).pick []⟩ }
    {
    refine W.cond_false (bool_tr rfl hc18) ?_
    refine W.seqK fun K20 hK20 => ?_
    refine W.region ?_
    refine WL.fieldAddr (m := 3) h9_1 FA75_3 rfl ?_
    refine WL.loadF (z := x1.Effects) F_api_Update_Effects hs 0 rfl 1 rfl rfl TI30 (.inr rfl) rfl rfl (fun v21 hs => ?_)
    obtain ⟨a22, c23, rfl⟩ := hs.slice 0 rfl
    refine WL.len (v := .slice a22 (x1.Effects).length c23) rfl (len_slice UN30) ?_
    refine WL.bin (v := .bool (decide (4 < ((x1.Effects).length : Int)))) rfl rfl (ib_gtr _ _ _) ?_
    refine WL.assign (v := .bool (decide (4 < ((x1.Effects).length : Int)))) rfl ?_
    refine WL.nil ?_
    refine hK20 _ _ ?_
    rcases iteE hf with ⟨hc24, hf⟩ | ⟨hc24, hf⟩
    {
    refine W.cond_true (bool_tr rfl hc24) ?_
    refine W.seqK fun K25 hK25 => ?_
    refine W.region ?_
    refine WL.assign (v := .int .i64 3) rfl ?_
    refine WL.nil ?_
    refine hK25 _ _ ?_
    refine W.ret ?_
    have hr := Option.some.inj hf; subst hr
    exact ⟨_, resOk_one rfl rfl, (), rfl, (hs.mask []).pick []⟩ }
    {
    refine W.cond_false (bool_tr rfl hc24) ?_
    refine W.skip ?_
    refine hK7 _ _ ?_
    refine W.seqK fun K26 hK26 => ?_
    have Jk28 : ∀  (ρ : Env) (w : World), ρ 1 = .pointer (some ⟨g6, 0, none⟩) → St ok (bz w0) w [vl t_api_Update x1 (.agg cs3.toArray)] [blk g6 75 cs3] → esref14_ValidateUpdate.j2 x1 = some r → K26 ρ w := by
      intro  ρ w h27_1 hs hf
      refine hK26 _ _ ?_
      unfold esref14_ValidateUpdate.j2 at hf
      refine W.seqK fun K29 hK29 => ?_
      refine W.seqK fun K30 hK30 => ?_
      have Jk33 : ∀ (x32 : Bool) (ρ : Env) (w : World), ρ 73 = .bool x32 → St ok (bz w0) w [] [] → esref14_ValidateUpdate.j1 x32 = some r → K30 ρ w := by
        intro x32 ρ w h31_73 hs hf
        refine hK30 _ _ ?_
        unfold esref14_ValidateUpdate.j1 at hf
        rcases iteE hf with ⟨hc34, hf⟩ | ⟨hc34, hf⟩
        {
        refine W.cond_true (bool_tr h31_73 hc34) ?_
        refine W.seqK fun K35 hK35 => ?_
        refine W.region ?_
        refine WL.assign (v := .int .i64 2) rfl ?_
        refine WL.nil ?_
        refine hK35 _ _ ?_
        refine W.ret ?_
        have hr := Option.some.inj hf; subst hr
        exact ⟨_, resOk_one rfl rfl, (), rfl, (hs.mask []).pick []⟩ }
        {
        refine W.cond_false (bool_tr h31_73 hc34) ?_
        refine W.skip ?_
        refine hK29 _ _ ?_
        refine W.seqK fun K36 hK36 => ?_
        refine W.region ?_
        refine WL.assign (v := .int .i64 0) rfl ?_
        refine WL.nil ?_
        refine hK36 _ _ ?_
        refine W.ret ?_
        have hr := Option.some.inj hf; subst hr
        exact ⟨_, resOk_one rfl rfl, (), rfl, (hs.mask []).pick []⟩ }
      refine W.region ?_
      refine WL.loadAll hs 0 rfl TI75 h27_1 hl4 ?_
      obtain ⟨x37, hxx37, hf⟩ := bindE hf
      refine WL.call (vs := [.agg cs3.toArray]) hs FN65 ⟨rfl, trivial⟩ (fun ok hA => esref14_Commutes.calls (x1 := x1) hxx37 (hA.get 0 rfl)) ?_
      rintro _ w hs
      refine WL.not rfl ?_
      refine WL.move (v := .bool (!x37)) rfl ?_
      rcases iteE hf with ⟨hc38, hf⟩ | ⟨hc38, hf⟩
      {
      refine WL.fieldAddr (m := 3) h27_1 FA75_3 rfl ?_ (hg := (wanted_of rfl rfl (bool_tr rfl hc38)).trans rfl)
      refine WL.loadF (z := x1.Effects) F_api_Update_Effects hs 0 rfl 0 rfl rfl TI30 (.inr rfl) rfl rfl (fun v39 hs => ?_) (hg := (wanted_of rfl rfl (bool_tr rfl hc38)).trans rfl)
      obtain ⟨a40, c41, rfl⟩ := hs.slice 0 rfl
      refine WL.len (v := .slice a40 (x1.Effects).length c41) rfl (len_slice UN30) ?_ (hg := (wanted_of rfl rfl (bool_tr rfl hc38)).trans rfl)
      refine WL.bin (v := .bool (decide (1 < ((x1.Effects).length : Int)))) rfl rfl (ib_gtr _ _ _) ?_ (hg := (wanted_of rfl rfl (bool_tr rfl hc38)).trans rfl)
      refine WL.pickT (v := .bool (decide (1 < ((x1.Effects).length : Int)))) (bool_tr rfl hc38) rfl ?_
      refine WL.move (v := .bool (decide (1 < ((x1.Effects).length : Int)))) rfl ?_
      rcases iteE hf with ⟨hc42, hf⟩ | ⟨hc42, hf⟩
      {
      refine WL.pass ((wanted_of rfl rfl (bool_tr rfl hc42)).trans rfl) rfl ?_
      refine WL.pass ((wanted_of rfl rfl (bool_tr rfl hc42)).trans rfl) rfl ?_
      refine WL.pass ((wanted_of rfl rfl (bool_tr rfl hc42)).trans rfl) rfl ?_
      refine WL.pass (wanted_undef rfl rfl rfl) rfl ?_
      refine WL.pass (wanted_undef rfl rfl rfl) rfl ?_
      refine WL.pass (wanted_undef rfl rfl rfl) rfl ?_
      refine WL.pass ((wanted_of rfl rfl (bool_tr rfl hc42)).trans rfl) rfl ?_
      refine WL.pickT (v := .bool true) (bool_tr rfl hc42) rfl ?_
      refine WL.nil ?_
      exact Jk33 true _ _ rfl ((hs.mask []).pick []) hf }
      {
      refine WL.loadAll hs 0 rfl TI75 h27_1 hl4 ?_ (hg := (wanted_of rfl rfl (bool_tr rfl hc42)).trans rfl)
      obtain ⟨x43, hxx43, hf⟩ := bindE hf
      refine WL.call (vs := [.agg cs3.toArray]) hs FN65 ⟨rfl, trivial⟩ (fun ok hA => esref14_Commutes.calls (x1 := x1) hxx43 (hA.get 1 rfl)) ?_ (hg := (wanted_of rfl rfl (bool_tr rfl hc42)).trans rfl)
      rintro _ w hs
      refine WL.move (v := .bool x43) rfl ?_ (hg := (wanted_of rfl rfl (bool_tr rfl hc42)).trans rfl)
      rcases iteE hf with ⟨hc44, hf⟩ | ⟨hc44, hf⟩
      {
      refine WL.fieldAddr (m := 2) h27_1 FA75_2 rfl ?_ (hg := (wanted_of rfl rfl (bool_tr rfl hc44)).trans rfl)
      refine WL.loadF (z := x1.Tag) F_api_Update_Tag hs 0 rfl 1 rfl rfl TI3 (.inr rfl) rfl rfl (fun v45 hs => ?_) (hg := (wanted_of rfl rfl (bool_tr rfl hc44)).trans rfl)
      obtain rfl := hs.int 0 rfl
      refine WL.bin (v := .bool (x1.Tag != 0)) rfl rfl (ib_neq _ _ _) ?_ (hg := (wanted_of rfl rfl (bool_tr rfl hc44)).trans rfl)
      refine WL.pickT (v := .bool (x1.Tag != 0)) (bool_tr rfl hc44) rfl ?_ (hg := (wanted_of rfl rfl (bool_tr rfl hc42)).trans rfl)
      refine WL.pickF (v := .bool (x1.Tag != 0)) (bool_tr rfl hc42) rfl ?_
      refine WL.nil ?_
      exact Jk33 (x1.Tag != 0) _ _ rfl ((hs.mask []).pick []) hf }
      {
      refine WL.pass ((wanted_of rfl rfl (bool_tr rfl hc44)).trans rfl) rfl ?_
      refine WL.pass ((wanted_of rfl rfl (bool_tr rfl hc44)).trans rfl) rfl ?_
      refine WL.pass ((wanted_of rfl rfl (bool_tr rfl hc44)).trans rfl) rfl ?_
      refine WL.pickF (v := .bool false) (bool_tr rfl hc44) rfl ?_ (hg := (wanted_of rfl rfl (bool_tr rfl hc42)).trans rfl)
      refine WL.pickF (v := .bool false) (bool_tr rfl hc42) rfl ?_
      refine WL.nil ?_
      exact Jk33 false _ _ rfl ((hs.mask []).pick []) hf } } }
      {
      refine WL.pass ((wanted_of rfl rfl (bool_tr rfl hc38)).trans rfl) rfl ?_
      refine WL.pass ((wanted_of rfl rfl (bool_tr rfl hc38)).trans rfl) rfl ?_
      refine WL.pass ((wanted_of rfl rfl (bool_tr rfl hc38)).trans rfl) rfl ?_
      refine WL.pass ((wanted_of rfl rfl (bool_tr rfl hc38)).trans rfl) rfl ?_
      refine WL.pickF (v := .bool false) (bool_tr rfl hc38) rfl ?_
      refine WL.move (v := .bool false) rfl ?_
      refine WL.loadAll hs 0 rfl TI75 h27_1 hl4 ?_ (hg := (wanted_of rfl rfl rfl).trans rfl)
      obtain ⟨x46, hxx46, hf⟩ := bindE hf
      refine WL.call (vs := [.agg cs3.toArray]) hs FN65 ⟨rfl, trivial⟩ (fun ok hA => esref14_Commutes.calls (x1 := x1) hxx46 (hA.get 0 rfl)) ?_ (hg := (wanted_of rfl rfl rfl).trans rfl)
      rintro _ w hs
      refine WL.move (v := .bool x46) rfl ?_ (hg := (wanted_of rfl rfl rfl).trans rfl)
      rcases iteE hf with ⟨hc47, hf⟩ | ⟨hc47, hf⟩
      {
      refine WL.fieldAddr (m := 2) h27_1 FA75_2 rfl ?_ (hg := (wanted_of rfl rfl (bool_tr rfl hc47)).trans rfl)
      refine WL.loadF (z := x1.Tag) F_api_Update_Tag hs 0 rfl 0 rfl rfl TI3 (.inr rfl) rfl rfl (fun v48 hs => ?_) (hg := (wanted_of rfl rfl (bool_tr rfl hc47)).trans rfl)
      obtain rfl := hs.int 0 rfl
      refine WL.bin (v := .bool (x1.Tag != 0)) rfl rfl (ib_neq _ _ _) ?_ (hg := (wanted_of rfl rfl (bool_tr rfl hc47)).trans rfl)
      refine WL.pickT (v := .bool (x1.Tag != 0)) (bool_tr rfl hc47) rfl ?_ (hg := (wanted_of rfl rfl rfl).trans rfl)
      refine WL.pickF (v := .bool (x1.Tag != 0)) rfl rfl ?_
      refine WL.nil ?_
      exact Jk33 (x1.Tag != 0) _ _ rfl ((hs.mask []).pick []) hf }
      {
      refine WL.pass ((wanted_of rfl rfl (bool_tr rfl hc47)).trans rfl) rfl ?_
      refine WL.pass ((wanted_of rfl rfl (bool_tr rfl hc47)).trans rfl) rfl ?_
      refine WL.pass ((wanted_of rfl rfl (bool_tr rfl hc47)).trans rfl) rfl ?_
      refine WL.pickF (v := .bool false) (bool_tr rfl hc47) rfl ?_ (hg := (wanted_of rfl rfl rfl).trans rfl)
      refine WL.pickF (v := .bool false) rfl rfl ?_
      refine WL.nil ?_
      exact Jk33 false _ _ rfl ((hs.mask []).pick []) hf } }
    refine W.seqK fun K49 hK49 => ?_
    refine W.region ?_
    refine WL.assign (v := .int .i64 0) rfl ?_
    refine WL.nil ?_
    refine hK49 _ _ ?_
    refine W.block ?_
    obtain ⟨bs52, hbs52, hfs52⟩ := bindE hf
    refine W.loop hbs52 (fun s ρ w => match s with | x51 => ρ 1 = .pointer (some ⟨g6, 0, none⟩) ∧ ρ 3 = .int .i64 x51 ∧ St ok (bz w0) w [vl t_api_Update x1 (.agg cs3.toArray)] [blk g6 75 cs3]) ⟨h9_1, rfl, (hs.mask [true]).pick [2]⟩ ?_
    intro x51 ρ w os52 hI hf hbbs52
    obtain ⟨h50_1, h50_3, hs⟩ := hI
    unfold esref14_ValidateUpdate.l1 at hf
    refine W.seqK fun K53 hK53 => ?_
    refine W.seqK fun K54 hK54 => ?_
    refine W.region ?_
    refine WL.move (v := .int .i64 x51) h50_3 ?_
    refine WL.fieldAddr (m := 3) h50_1 FA75_3 rfl ?_
    refine WL.loadF (z := x1.Effects) F_api_Update_Effects hs 0 rfl 0 rfl rfl TI30 (.inr rfl) rfl rfl (fun v55 hs => ?_)
    obtain ⟨a56, c57, rfl⟩ := hs.slice 0 rfl
    refine WL.len (v := .slice a56 (x1.Effects).length c57) rfl (len_slice UN30) ?_
    refine WL.bin (v := .bool (decide (x51 < ((x1.Effects).length : Int)))) rfl rfl (ib_lss _ _ _) ?_
    refine WL.nil ?_
    refine hK54 _ _ ?_
    rcases iteE hf with ⟨hc58, hf⟩ | ⟨hc58, hf⟩
    {
    refine W.cond_true (bool_tr rfl hc58) ?_
    refine W.skip ?_
    refine hK53 _ _ ?_
    refine W.seqK fun K59 hK59 => ?_
    refine W.block ?_
    refine W.seqK fun K60 hK60 => ?_
    refine W.region ?_
    refine WL.fieldAddr (m := 3) h50_1 FA75_3 rfl ?_
    refine WL.loadF (z := x1.Effects) F_api_Update_Effects hs 0 rfl 1 rfl rfl TI30 (.inr rfl) rfl rfl (fun v61 hs => ?_)
    obtain ⟨a62, c63, rfl⟩ := hs.slice 0 rfl
    refine WL.move (v := .int .i64 x51) h50_3 ?_
    obtain ⟨x64, hxx64, hf⟩ := bindE hf
    refine WL.indexAddr hs 0 rfl UN30 TI72 rfl rfl hxx64 (fun ad65 hs => ?_)
    refine WL.loadP hs 0 rfl TI72 (.inl rfl) rfl (fun v66 hs => ?_)
    obtain ⟨cs67, hl68, rfl⟩ := hs.aggv (n := 5) 0 rfl rfl rfl
    obtain ⟨x69, hxx69, hf⟩ := bindE hf
    refine WL.call (vs := [.agg cs67.toArray]) hs FN64 ⟨rfl, trivial⟩ (fun ok hA => esref14_ValidateEffect.calls (x1 := x64) hxx69 (hA.get 0 rfl)) ?_
    rintro _ w hs
    refine WL.assign (v := .int .i64 x69) rfl ?_
    refine WL.nil ?_
    refine hK60 _ _ ?_
    refine W.seqK fun K70 hK70 => ?_
    refine W.region ?_
    refine WL.move (v := .int .i64 x69) rfl ?_
    refine WL.bin (v := .bool (x69 != 0)) rfl rfl (ib_neq _ _ _) ?_
    refine WL.nil ?_
    refine hK70 _ _ ?_
    rcases iteE hf with ⟨hc71, hf⟩ | ⟨hc71, hf⟩
    {
    refine W.cond_true (bool_tr rfl hc71) ?_
    refine W.seqK fun K72 hK72 => ?_
    refine W.region ?_
    refine WL.move (v := .int .i64 x69) rfl ?_
    refine WL.assign (v := .int .i64 x69) rfl ?_
    refine WL.nil ?_
    refine hK72 _ _ ?_
    refine W.ret ?_
    have hr := Option.some.inj hf; subst hr
    have hr := hbbs52 _ rfl; subst hr
    have hf := hfs52
    have hr := Option.some.inj hf; subst hr
    exact ⟨_, resOk_one rfl rfl, (), rfl, (hs.mask []).pick []⟩ }
    {
    refine W.cond_false (bool_tr rfl hc71) ?_
    refine W.skip ?_
    refine hK59 _ _ ?_
    refine W.region ?_
    refine WL.move (v := .int .i64 x51) h50_3 ?_
    obtain ⟨x73, ex73, hf⟩ := letE hf
    refine WL.bin (v := .int .i64 x73) rfl rfl (ib_as ex73 (ib_add _ _ _)) ?_
    refine WL.assign (v := .int .i64 x73) rfl ?_
    refine WL.nil ?_
    exact ⟨_, (Option.some.inj hf).symm, h50_1, rfl, (hs.mask [true]).pick [4]⟩ } }
    {
    refine W.cond_false (bool_tr rfl hc58) ?_
    refine W.exit ?_
    have hr := Option.some.inj hf; subst hr
    have hr := hbbs52 _ rfl; subst hr
    have hf := hfs52
    exact Jk28  _ _ h50_1 ((hs.mask [true]).pick [1]) hf } } } }
  refine W.region ?_
  refine WL.fieldAddr (m := 0) rfl FA75_0 rfl ?_
  refine WL.loadF (z := x1.Client) F_api_Update_Client hs 0 rfl 0 rfl rfl TI3 (.inr rfl) rfl rfl (fun v75 hs => ?_)
  obtain rfl := hs.int 0 rfl
  obtain ⟨x76, hxx76, hf⟩ := bindE hf
  refine WL.call (vs := [.int .i64 x1.Client]) hs FN53 ⟨rfl, trivial⟩ (fun ok hA => esref06_Client.calls (x1 := x1.Client) hxx76) ?_
  rintro _ w hs
  refine WL.not rfl ?_
  refine WL.move (v := .bool (!x76)) rfl ?_
  rcases iteE hf with ⟨hc77, hf⟩ | ⟨hc77, hf⟩
  {
  refine WL.pass ((wanted_of rfl rfl (bool_tr rfl hc77)).trans rfl) rfl ?_
  refine WL.pass ((wanted_of rfl rfl (bool_tr rfl hc77)).trans rfl) rfl ?_
  refine WL.pass ((wanted_of rfl rfl (bool_tr rfl hc77)).trans rfl) rfl ?_
  refine WL.pickT (v := .bool true) (bool_tr rfl hc77) rfl ?_
  refine WL.move (v := .bool true) rfl ?_
  refine WL.pass ((wanted_of rfl rfl rfl).trans rfl) rfl ?_
  refine WL.pass ((wanted_of rfl rfl rfl).trans rfl) rfl ?_
  refine WL.pass ((wanted_of rfl rfl rfl).trans rfl) rfl ?_
  refine WL.pickT (v := .bool true) rfl rfl ?_
  refine WL.move (v := .bool true) rfl ?_
  refine WL.pass ((wanted_of rfl rfl rfl).trans rfl) rfl ?_
  refine WL.pass ((wanted_of rfl rfl rfl).trans rfl) rfl ?_
  refine WL.pass ((wanted_of rfl rfl rfl).trans rfl) rfl ?_
  refine WL.pickT (v := .bool true) rfl rfl ?_
  refine WL.move (v := .bool true) rfl ?_
  refine WL.pass ((wanted_of rfl rfl rfl).trans rfl) rfl ?_
  refine WL.pass ((wanted_of rfl rfl rfl).trans rfl) rfl ?_
  refine WL.pass ((wanted_of rfl rfl rfl).trans rfl) rfl ?_
  refine WL.pickT (v := .bool true) rfl rfl ?_
  refine WL.assign (v := .bool true) rfl ?_
  refine WL.nil ?_
  exact Jk11 true _ _ rfl rfl ((hs.mask [true]).pick [1]) hf }
  {
  refine WL.fieldAddr (m := 1) rfl FA75_1 rfl ?_ (hg := (wanted_of rfl rfl (bool_tr rfl hc77)).trans rfl)
  refine WL.loadF (z := x1.Seq) F_api_Update_Seq hs 0 rfl 1 rfl rfl TI3 (.inr rfl) rfl rfl (fun v78 hs => ?_) (hg := (wanted_of rfl rfl (bool_tr rfl hc77)).trans rfl)
  obtain rfl := hs.int 0 rfl
  refine WL.bin (v := .bool (decide (x1.Seq < 1))) rfl rfl (ib_lss _ _ _) ?_ (hg := (wanted_of rfl rfl (bool_tr rfl hc77)).trans rfl)
  refine WL.pickF (v := .bool (decide (x1.Seq < 1))) (bool_tr rfl hc77) rfl ?_
  refine WL.move (v := .bool (decide (x1.Seq < 1))) rfl ?_
  rcases iteE hf with ⟨hc79, hf⟩ | ⟨hc79, hf⟩
  {
  refine WL.pass ((wanted_of rfl rfl (bool_tr rfl hc79)).trans rfl) rfl ?_
  refine WL.pass ((wanted_of rfl rfl (bool_tr rfl hc79)).trans rfl) rfl ?_
  refine WL.pass ((wanted_of rfl rfl (bool_tr rfl hc79)).trans rfl) rfl ?_
  refine WL.pickT (v := .bool true) (bool_tr rfl hc79) rfl ?_
  refine WL.move (v := .bool true) rfl ?_
  refine WL.pass ((wanted_of rfl rfl rfl).trans rfl) rfl ?_
  refine WL.pass ((wanted_of rfl rfl rfl).trans rfl) rfl ?_
  refine WL.pass ((wanted_of rfl rfl rfl).trans rfl) rfl ?_
  refine WL.pickT (v := .bool true) rfl rfl ?_
  refine WL.move (v := .bool true) rfl ?_
  refine WL.pass ((wanted_of rfl rfl rfl).trans rfl) rfl ?_
  refine WL.pass ((wanted_of rfl rfl rfl).trans rfl) rfl ?_
  refine WL.pass ((wanted_of rfl rfl rfl).trans rfl) rfl ?_
  refine WL.pickT (v := .bool true) rfl rfl ?_
  refine WL.assign (v := .bool true) rfl ?_
  refine WL.nil ?_
  exact Jk11 true _ _ rfl rfl ((hs.mask [true]).pick [2]) hf }
  {
  refine WL.fieldAddr (m := 1) rfl FA75_1 rfl ?_ (hg := (wanted_of rfl rfl (bool_tr rfl hc79)).trans rfl)
  refine WL.loadF (z := x1.Seq) F_api_Update_Seq hs 0 rfl 2 rfl rfl TI3 (.inr rfl) rfl rfl (fun v80 hs => ?_) (hg := (wanted_of rfl rfl (bool_tr rfl hc79)).trans rfl)
  obtain rfl := hs.int 0 rfl
  refine WL.bin (v := .bool (decide (8 < x1.Seq))) rfl rfl (ib_gtr _ _ _) ?_ (hg := (wanted_of rfl rfl (bool_tr rfl hc79)).trans rfl)
  refine WL.pickF (v := .bool (decide (8 < x1.Seq))) (bool_tr rfl hc79) rfl ?_
  refine WL.move (v := .bool (decide (8 < x1.Seq))) rfl ?_
  rcases iteE hf with ⟨hc81, hf⟩ | ⟨hc81, hf⟩
  {
  refine WL.pass ((wanted_of rfl rfl (bool_tr rfl hc81)).trans rfl) rfl ?_
  refine WL.pass ((wanted_of rfl rfl (bool_tr rfl hc81)).trans rfl) rfl ?_
  refine WL.pass ((wanted_of rfl rfl (bool_tr rfl hc81)).trans rfl) rfl ?_
  refine WL.pickT (v := .bool true) (bool_tr rfl hc81) rfl ?_
  refine WL.move (v := .bool true) rfl ?_
  refine WL.pass ((wanted_of rfl rfl rfl).trans rfl) rfl ?_
  refine WL.pass ((wanted_of rfl rfl rfl).trans rfl) rfl ?_
  refine WL.pass ((wanted_of rfl rfl rfl).trans rfl) rfl ?_
  refine WL.pickT (v := .bool true) rfl rfl ?_
  refine WL.assign (v := .bool true) rfl ?_
  refine WL.nil ?_
  exact Jk11 true _ _ rfl rfl ((hs.mask [true]).pick [3]) hf }
  {
  refine WL.fieldAddr (m := 2) rfl FA75_2 rfl ?_ (hg := (wanted_of rfl rfl (bool_tr rfl hc81)).trans rfl)
  refine WL.loadF (z := x1.Tag) F_api_Update_Tag hs 0 rfl 3 rfl rfl TI3 (.inr rfl) rfl rfl (fun v82 hs => ?_) (hg := (wanted_of rfl rfl (bool_tr rfl hc81)).trans rfl)
  obtain rfl := hs.int 0 rfl
  refine WL.bin (v := .bool (decide (x1.Tag < 0))) rfl rfl (ib_lss _ _ _) ?_ (hg := (wanted_of rfl rfl (bool_tr rfl hc81)).trans rfl)
  refine WL.pickF (v := .bool (decide (x1.Tag < 0))) (bool_tr rfl hc81) rfl ?_
  refine WL.move (v := .bool (decide (x1.Tag < 0))) rfl ?_
  rcases iteE hf with ⟨hc83, hf⟩ | ⟨hc83, hf⟩
  {
  refine WL.pass ((wanted_of rfl rfl (bool_tr rfl hc83)).trans rfl) rfl ?_
  refine WL.pass ((wanted_of rfl rfl (bool_tr rfl hc83)).trans rfl) rfl ?_
  refine WL.pass ((wanted_of rfl rfl (bool_tr rfl hc83)).trans rfl) rfl ?_
  refine WL.pickT (v := .bool true) (bool_tr rfl hc83) rfl ?_
  refine WL.assign (v := .bool true) rfl ?_
  refine WL.nil ?_
  exact Jk11 true _ _ rfl rfl ((hs.mask [true]).pick [4]) hf }
  {
  refine WL.fieldAddr (m := 2) rfl FA75_2 rfl ?_ (hg := (wanted_of rfl rfl (bool_tr rfl hc83)).trans rfl)
  refine WL.loadF (z := x1.Tag) F_api_Update_Tag hs 0 rfl 4 rfl rfl TI3 (.inr rfl) rfl rfl (fun v84 hs => ?_) (hg := (wanted_of rfl rfl (bool_tr rfl hc83)).trans rfl)
  obtain rfl := hs.int 0 rfl
  refine WL.bin (v := .bool (decide (1000 < x1.Tag))) rfl rfl (ib_gtr _ _ _) ?_ (hg := (wanted_of rfl rfl (bool_tr rfl hc83)).trans rfl)
  refine WL.pickF (v := .bool (decide (1000 < x1.Tag))) (bool_tr rfl hc83) rfl ?_
  refine WL.assign (v := .bool (decide (1000 < x1.Tag))) rfl ?_
  refine WL.nil ?_
  exact Jk11 (decide (1000 < x1.Tag)) _ _ rfl rfl ((hs.mask [true]).pick [5]) hf } } } }
/-! elasticstore/elasticstoreref39.content: function 38 -/
theorem esref39_content.calls {ok : Nat → Prop} {w0 : World} {x1 : history_Operation} {v2 : Value} {r : Int} (hf : esref39_content x1 = some r) (i0 : (vl t_history_Operation x1 v2).holds ok w0) :
    Calls Try.prog 38 #[v2] w0 fun e w' => ∃ v, e = .returned v ∧ ∃ y : Unit, v = .int .i64 r ∧ St ok (bz w0) w' [] [] := by
  unfold esref39_content at hf
  refine calls_of_W (fn := Try.f38) (N := 32) Try.func38 rfl Try.ntmps38 rfl ?_
  have hs : St ok (bz w0) w0 [vl t_history_Operation x1 v2] [] := St.init (All.cons i0 All.nil)
  clear i0
  obtain ⟨cs3, hl4, rfl⟩ := hs.aggv (n := 6) 0 rfl rfl rfl
  refine W.seqK fun K5 hK5 => ?_
  refine W.region ?_
  refine WL.box (vs := cs3) hs rfl rfl (fun g6 w hs => ?_)
  refine WL.assign (v := .int .i64 0) rfl ?_
  refine WL.nil ?_
  refine hK5 _ _ ?_
  refine W.seqK fun K7 hK7 => ?_
  refine W.seqK fun K8 hK8 => ?_
  refine W.region ?_
  refine WL.fieldAddr (m := 1) rfl FA35_1 rfl ?_
  refine WL.loadF (z := x1.Kind) F_history_Operation_Kind hs 0 rfl 0 rfl rfl TI3 (.inr rfl) rfl rfl (fun v9 hs => ?_)
  obtain rfl := hs.int 0 rfl
  refine WL.bin (v := .bool (x1.Kind == 1)) rfl rfl (ib_eql _ _ _) ?_
  refine WL.nil ?_
  refine hK8 _ _ ?_
  rcases iteE hf with ⟨hc10, hf⟩ | ⟨hc10, hf⟩
  {
  refine W.cond_true (bool_tr rfl hc10) ?_
  refine W.seqK fun K11 hK11 => ?_
  refine W.seqK fun K12 hK12 => ?_
  have Jk15 : ∀ (x14 : Bool) (ρ : Env) (w : World), ρ 16 = .bool x14 → St ok (bz w0) w [] [] → esref39_content.j1 x14 = some r → K12 ρ w := by
    intro x14 ρ w h13_16 hs hf
    refine hK12 _ _ ?_
    unfold esref39_content.j1 at hf
    rcases iteE hf with ⟨hc16, hf⟩ | ⟨hc16, hf⟩
    {
    refine W.cond_true (bool_tr h13_16 hc16) ?_
    refine W.seqK fun K17 hK17 => ?_
    refine W.region ?_
    refine WL.assign (v := .int .i64 2) rfl ?_
    refine WL.nil ?_
    refine hK17 _ _ ?_
    refine W.ret ?_
    have hr := Option.some.inj hf; subst hr
    exact ⟨_, resOk_one rfl rfl, (), rfl, (hs.mask []).pick []⟩ }
    {
    refine W.cond_false (bool_tr h13_16 hc16) ?_
    refine W.skip ?_
    refine hK11 _ _ ?_
    refine W.seqK fun K18 hK18 => ?_
    refine W.region ?_
    refine WL.assign (v := .int .i64 0) rfl ?_
    refine WL.nil ?_
    refine hK18 _ _ ?_
    refine W.ret ?_
    have hr := Option.some.inj hf; subst hr
    exact ⟨_, resOk_one rfl rfl, (), rfl, (hs.mask []).pick []⟩ }
  refine W.region ?_
  refine WL.fieldAddr (m := 3) rfl FA35_3 rfl ?_
  refine WL.loadF (z := x1.Result) F_history_Operation_Result hs 0 rfl 1 rfl rfl TI31 (.inr rfl) rfl rfl (fun v19 hs => ?_)
  obtain ⟨a20, c21, rfl⟩ := hs.slice 0 rfl
  refine WL.len (v := .slice a20 (x1.Result).length c21) rfl (len_slice UN31) ?_
  refine WL.bin (v := .bool (decide (0 < ((x1.Result).length : Int)))) rfl rfl (ib_gtr _ _ _) ?_
  refine WL.move (v := .bool (decide (0 < ((x1.Result).length : Int)))) rfl ?_
  rcases iteE hf with ⟨hc22, hf⟩ | ⟨hc22, hf⟩
  {
  refine WL.pass ((wanted_of rfl rfl (bool_tr rfl hc22)).trans rfl) rfl ?_
  refine WL.pass ((wanted_of rfl rfl (bool_tr rfl hc22)).trans rfl) rfl ?_
  refine WL.pass ((wanted_of rfl rfl (bool_tr rfl hc22)).trans rfl) rfl ?_
  refine WL.pass ((wanted_of rfl rfl (bool_tr rfl hc22)).trans rfl) rfl ?_
  refine WL.pass ((wanted_of rfl rfl (bool_tr rfl hc22)).trans rfl) rfl ?_
  refine WL.pickT (v := .bool true) (bool_tr rfl hc22) rfl ?_
  refine WL.nil ?_
  exact Jk15 true _ _ rfl ((hs.mask []).pick []) hf }
  {
  refine WL.fieldAddr (m := 2) rfl FA35_2 rfl ?_ (hg := (wanted_of rfl rfl (bool_tr rfl hc22)).trans rfl)
  refine WL.loadF (z := x1.Effects) F_history_Operation_Effects hs 0 rfl 2 rfl rfl TI30 (.inr rfl) rfl rfl (fun v23 hs => ?_) (hg := (wanted_of rfl rfl (bool_tr rfl hc22)).trans rfl)
  obtain ⟨a24, c25, rfl⟩ := hs.slice 0 rfl
  refine WL.build (vs := [(0, .int .i64 101), (1, .int .i64 1), (3, .slice a24 (x1.Effects).length c25)]) (cs := [.int .i64 101, .int .i64 1, .int .i64 0, .slice a24 (x1.Effects).length c25]) ⟨⟨rfl, rfl⟩, ⟨⟨rfl, rfl⟩, ⟨⟨rfl, rfl⟩, trivial⟩⟩⟩ (bld PL75 rfl) ?_ (hg := (wanted_of rfl rfl (bool_tr rfl hc22)).trans rfl)
  have hs := hs.add (it := vl t_api_Update (⟨101, 1, 0, x1.Effects⟩ : api_Update) (.agg [.int .i64 101, .int .i64 1, .int .i64 0, .slice a24 (x1.Effects).length c25].toArray)) fun ok hA => V_agg (show t_api_Update.R ok _ _ _ from ⟨[.int .i64 101], [.int .i64 1, .int .i64 0, .slice a24 (x1.Effects).length c25], rfl, rfl, ⟨[.int .i64 1], [.int .i64 0, .slice a24 (x1.Effects).length c25], rfl, rfl, ⟨[.int .i64 0], [.slice a24 (x1.Effects).length c25], rfl, rfl, (R_one (hA.get 0 rfl))⟩⟩⟩) rfl
  obtain ⟨x26, hxx26, hf⟩ := bindE hf
  refine WL.call (vs := [.agg ([.int .i64 101, .int .i64 1, .int .i64 0, .slice a24 (x1.Effects).length c25] : List Value).toArray]) hs FN54 ⟨rfl, trivial⟩ (fun ok hA => esref14_ValidateUpdate.calls (x1 := (⟨101, 1, 0, x1.Effects⟩ : api_Update)) hxx26 (hA.get 0 rfl)) ?_ (hg := (wanted_of rfl rfl (bool_tr rfl hc22)).trans rfl)
  rintro _ w hs
  refine WL.bin (v := .bool (x26 != 0)) rfl rfl (ib_neq _ _ _) ?_ (hg := (wanted_of rfl rfl (bool_tr rfl hc22)).trans rfl)
  refine WL.pickF (v := .bool (x26 != 0)) (bool_tr rfl hc22) rfl ?_
  refine WL.nil ?_
  exact Jk15 (x26 != 0) _ _ rfl ((hs.mask []).pick []) hf } }
  {
  refine W.cond_false (bool_tr rfl hc10) ?_
  refine W.skip ?_
  refine hK7 _ _ ?_
  refine W.seqK fun K27 hK27 => ?_
  refine W.seqK fun K28 hK28 => ?_
  have Jk31 : ∀ (x30 : Bool) (ρ : Env) (w : World), ρ 31 = .bool x30 → St ok (bz w0) w [] [] → esref39_content.j2 x30 = some r → K28 ρ w := by
    intro x30 ρ w h29_31 hs hf
    refine hK28 _ _ ?_
    unfold esref39_content.j2 at hf
    rcases iteE hf with ⟨hc32, hf⟩ | ⟨hc32, hf⟩
    {
    refine W.cond_true (bool_tr h29_31 hc32) ?_
    refine W.seqK fun K33 hK33 => ?_
    refine W.region ?_
    refine WL.assign (v := .int .i64 2) rfl ?_
    refine WL.nil ?_
    refine hK33 _ _ ?_
    refine W.ret ?_
    have hr := Option.some.inj hf; subst hr
    exact ⟨_, resOk_one rfl rfl, (), rfl, (hs.mask []).pick []⟩ }
    {
    refine W.cond_false (bool_tr h29_31 hc32) ?_
    refine W.skip ?_
    refine hK27 _ _ ?_
    refine W.seqK fun K34 hK34 => ?_
    refine W.region ?_
    refine WL.assign (v := .int .i64 0) rfl ?_
    refine WL.nil ?_
    refine hK34 _ _ ?_
    refine W.ret ?_
    have hr := Option.some.inj hf; subst hr
    exact ⟨_, resOk_one rfl rfl, (), rfl, (hs.mask []).pick []⟩ }
  refine W.region ?_
  refine WL.fieldAddr (m := 2) rfl FA35_2 rfl ?_
  refine WL.loadF (z := x1.Effects) F_history_Operation_Effects hs 0 rfl 1 rfl rfl TI30 (.inr rfl) rfl rfl (fun v35 hs => ?_)
  obtain ⟨a36, c37, rfl⟩ := hs.slice 0 rfl
  refine WL.len (v := .slice a36 (x1.Effects).length c37) rfl (len_slice UN30) ?_
  refine WL.bin (v := .bool (decide (0 < ((x1.Effects).length : Int)))) rfl rfl (ib_gtr _ _ _) ?_
  refine WL.move (v := .bool (decide (0 < ((x1.Effects).length : Int)))) rfl ?_
  rcases iteE hf with ⟨hc38, hf⟩ | ⟨hc38, hf⟩
  {
  refine WL.pass ((wanted_of rfl rfl (bool_tr rfl hc38)).trans rfl) rfl ?_
  refine WL.pass ((wanted_of rfl rfl (bool_tr rfl hc38)).trans rfl) rfl ?_
  refine WL.pass ((wanted_of rfl rfl (bool_tr rfl hc38)).trans rfl) rfl ?_
  refine WL.pass ((wanted_of rfl rfl (bool_tr rfl hc38)).trans rfl) rfl ?_
  refine WL.pass (wanted_undef rfl rfl rfl) rfl ?_
  refine WL.pass (wanted_undef rfl rfl rfl) rfl ?_
  refine WL.pass (wanted_undef rfl rfl rfl) rfl ?_
  refine WL.pass (wanted_undef rfl rfl rfl) rfl ?_
  refine WL.pass ((wanted_of rfl rfl (bool_tr rfl hc38)).trans rfl) rfl ?_
  refine WL.pickT (v := .bool true) (bool_tr rfl hc38) rfl ?_
  refine WL.nil ?_
  exact Jk31 true _ _ rfl ((hs.mask []).pick []) hf }
  {
  refine WL.fieldAddr (m := 5) rfl FA35_5 rfl ?_ (hg := (wanted_of rfl rfl (bool_tr rfl hc38)).trans rfl)
  refine WL.loadF (z := x1.Return) F_history_Operation_Return hs 0 rfl 2 rfl rfl TI3 (.inr rfl) rfl rfl (fun v39 hs => ?_) (hg := (wanted_of rfl rfl (bool_tr rfl hc38)).trans rfl)
  obtain rfl := hs.int 0 rfl
  refine WL.bin (v := .bool (x1.Return == 0)) rfl rfl (ib_eql _ _ _) ?_ (hg := (wanted_of rfl rfl (bool_tr rfl hc38)).trans rfl)
  refine WL.move (v := .bool (x1.Return == 0)) rfl ?_ (hg := (wanted_of rfl rfl (bool_tr rfl hc38)).trans rfl)
  rcases iteE hf with ⟨hc40, hf⟩ | ⟨hc40, hf⟩
  {
  refine WL.fieldAddr (m := 3) rfl FA35_3 rfl ?_ (hg := (wanted_of rfl rfl (bool_tr rfl hc40)).trans rfl)
  refine WL.loadF (z := x1.Result) F_history_Operation_Result hs 0 rfl 3 rfl rfl TI31 (.inr rfl) rfl rfl (fun v41 hs => ?_) (hg := (wanted_of rfl rfl (bool_tr rfl hc40)).trans rfl)
  obtain ⟨a42, c43, rfl⟩ := hs.slice 0 rfl
  refine WL.len (v := .slice a42 (x1.Result).length c43) rfl (len_slice UN31) ?_ (hg := (wanted_of rfl rfl (bool_tr rfl hc40)).trans rfl)
  refine WL.bin (v := .bool (decide (0 < ((x1.Result).length : Int)))) rfl rfl (ib_gtr _ _ _) ?_ (hg := (wanted_of rfl rfl (bool_tr rfl hc40)).trans rfl)
  refine WL.pickT (v := .bool (decide (0 < ((x1.Result).length : Int)))) (bool_tr rfl hc40) rfl ?_ (hg := (wanted_of rfl rfl (bool_tr rfl hc38)).trans rfl)
  refine WL.pickF (v := .bool (decide (0 < ((x1.Result).length : Int)))) (bool_tr rfl hc38) rfl ?_
  refine WL.nil ?_
  exact Jk31 (decide (0 < ((x1.Result).length : Int))) _ _ rfl ((hs.mask []).pick []) hf }
  {
  refine WL.pass ((wanted_of rfl rfl (bool_tr rfl hc40)).trans rfl) rfl ?_
  refine WL.pass ((wanted_of rfl rfl (bool_tr rfl hc40)).trans rfl) rfl ?_
  refine WL.pass ((wanted_of rfl rfl (bool_tr rfl hc40)).trans rfl) rfl ?_
  refine WL.pass ((wanted_of rfl rfl (bool_tr rfl hc40)).trans rfl) rfl ?_
  refine WL.pickF (v := .bool false) (bool_tr rfl hc40) rfl ?_ (hg := (wanted_of rfl rfl (bool_tr rfl hc38)).trans rfl)
  refine WL.pickF (v := .bool false) (bool_tr rfl hc38) rfl ?_
  refine WL.nil ?_
  exact Jk31 false _ _ rfl ((hs.mask []).pick []) hf } } }
end Go.Proofs.Ytbbeobiampbddaa
