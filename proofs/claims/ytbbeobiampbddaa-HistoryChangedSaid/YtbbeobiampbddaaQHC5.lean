/- What the row leans on, as few texts. -/
import Derived.Test.YtbbeobiampbddaaQHC2
import Derived.Test.YtbbeobiampbddaaQHC0
import Derived.Test.YtbbeobiampbddaaQHC4
set_option linter.unusedVariables false
set_option linter.unusedSimpArgs false
namespace Go.Proofs.Ytbbeobiampbddaa
open Go Go.RowKit Go.Proofs.YtbbeobiampbddaaL
set_option maxRecDepth 100000
set_option maxHeartbeats 4000000
theorem esref06_Client.calls {ok : Nat → Prop} {w0 : World} {x1 : Int}  {r : Bool} (hf : esref06_Client x1 = some r)  :
    Calls Try.prog 53 #[.int .i64 x1] w0 fun e w' => ∃ v, e = .returned v ∧ ∃ y : Unit, v = .bool r ∧ St ok (bz w0) w' [] [] := by
  unfold esref06_Client at hf
  refine calls_of_W (fn := Try.f53) (N := 9) Try.func53 rfl Try.ntmps53 rfl ?_
  have hs : St ok (bz w0) w0 [] [] := St.init All.nil
  refine W.seqK fun K2 hK2 => ?_
  refine W.region ?_
  refine WL.assign (v := .bool false) rfl ?_
  refine WL.nil ?_
  refine hK2 _ _ ?_
  refine W.seqK fun K3 hK3 => ?_
  have Jk6 : ∀ (x5 : Bool) (ρ : Env) (w : World), ρ 2 = .bool x5 → St ok (bz w0) w [] [] → esref06_Client.j1 x5 = some r → K3 ρ w := by
    intro x5 ρ w h4_2 hs hf
    refine hK3 _ _ ?_
    unfold esref06_Client.j1 at hf
    refine W.ret ?_
    have hr := Option.some.inj hf; subst hr
    exact ⟨_, resOk_one rfl h4_2, (), rfl, (hs.mask []).pick []⟩
  refine W.region ?_
  refine WL.move (v := .int .i64 x1) rfl ?_
  refine WL.bin (v := .bool (decide (101 ≤ x1))) rfl rfl (ib_geq _ _ _) ?_
  refine WL.move (v := .bool (decide (101 ≤ x1))) rfl ?_
  rcases iteE hf with ⟨hc7, hf⟩ | ⟨hc7, hf⟩
  {
  refine WL.move (v := .int .i64 x1) rfl ?_ (hg := (wanted_of rfl rfl (bool_tr rfl hc7)).trans rfl)
  refine WL.bin (v := .bool (decide (x1 < 107))) rfl rfl (ib_lss _ _ _) ?_ (hg := (wanted_of rfl rfl (bool_tr rfl hc7)).trans rfl)
  refine WL.pickT (v := .bool (decide (x1 < 107))) (bool_tr rfl hc7) rfl ?_
  refine WL.assign (v := .bool (decide (x1 < 107))) rfl ?_
  refine WL.nil ?_
  exact Jk6 (decide (x1 < 107)) _ _ rfl ((hs.mask []).pick []) hf }
  {
  refine WL.pass ((wanted_of rfl rfl (bool_tr rfl hc7)).trans rfl) rfl ?_
  refine WL.pass ((wanted_of rfl rfl (bool_tr rfl hc7)).trans rfl) rfl ?_
  refine WL.pickF (v := .bool false) (bool_tr rfl hc7) rfl ?_
  refine WL.assign (v := .bool false) rfl ?_
  refine WL.nil ?_
  exact Jk6 false _ _ rfl ((hs.mask []).pick []) hf }
theorem esref39_validOperation.calls {ok : Nat → Prop} {w0 : World} {x1 : history_Operation} {v2 : Value} {r : Int} (hf : esref39_validOperation x1 = some r) (i0 : (vl t_history_Operation x1 v2).holds ok w0) :
    Calls Try.prog 37 #[v2] w0 fun e w' => ∃ v, e = .returned v ∧ ∃ y : Unit, v = .int .i64 r ∧ St ok (bz w0) w' [] [] := by
  unfold esref39_validOperation at hf
  refine calls_of_W (fn := Try.f37) (N := 30) Try.func37 rfl Try.ntmps37 rfl ?_
  have hs : St ok (bz w0) w0 [vl t_history_Operation x1 v2] [] := St.init (All.cons i0 All.nil)
  clear i0
  obtain ⟨cs3, hl4, rfl⟩ := hs.aggv (n := 6) 0 rfl rfl rfl
  refine W.seqK fun K5 hK5 => ?_
  refine W.region ?_
  refine WL.box (vs := cs3) hs rfl rfl (fun g6 w hs => ?_)
  refine WL.assign (v := .int .i64 0) rfl ?_
  refine WL.nil ?_
  refine hK5 _ _ ?_
  refine W.seqK fun K7 hK7 => ?_
  refine W.seqK fun K8 hK8 => ?_
  refine W.region ?_
  refine WL.fieldAddr (m := 0) rfl FA35_0 rfl ?_
  refine WL.loadF (z := x1.Process) F_history_Operation_Process hs 0 rfl 0 rfl rfl TI3 (.inr rfl) rfl rfl (fun v9 hs => ?_)
  obtain rfl := hs.int 0 rfl
  obtain ⟨x10, hxx10, hf⟩ := bindE hf
  refine WL.call (vs := [.int .i64 x1.Process]) hs FN53 ⟨rfl, trivial⟩ (fun ok hA => esref06_Client.calls (x1 := x1.Process) hxx10) ?_
  rintro _ w hs
  refine WL.not rfl ?_
  refine WL.nil ?_
  refine hK8 _ _ ?_
  rcases iteE hf with ⟨hc11, hf⟩ | ⟨hc11, hf⟩
  {
  refine W.cond_true (bool_tr rfl hc11) ?_
  refine W.seqK fun K12 hK12 => ?_
  refine W.region ?_
  refine WL.assign (v := .int .i64 9) rfl ?_
  refine WL.nil ?_
  refine hK12 _ _ ?_
  refine W.ret ?_
  have hr := Option.some.inj hf; subst hr
  exact ⟨_, resOk_one rfl rfl, (), rfl, (hs.mask []).pick []⟩ }
  {
  refine W.cond_false (bool_tr rfl hc11) ?_
  refine W.skip ?_
  refine hK7 _ _ ?_
  refine W.seqK fun K13 hK13 => ?_
  refine W.seqK fun K14 hK14 => ?_
  have Jk17 : ∀ (x16 : Bool) (ρ : Env) (w : World), ρ 1 = .pointer (some ⟨g6, 0, none⟩) → ρ 14 = .bool x16 → St ok (bz w0) w [vl t_history_Operation x1 (.agg cs3.toArray)] [blk g6 35 cs3] → esref39_validOperation.j2 x1 x16 = some r → K14 ρ w := by
    intro x16 ρ w h15_1 h15_14 hs hf
    refine hK14 _ _ ?_
    unfold esref39_validOperation.j2 at hf
    rcases iteE hf with ⟨hc18, hf⟩ | ⟨hc18, hf⟩
    {
    refine W.cond_true (bool_tr h15_14 hc18) ?_
    refine W.seqK fun K19 hK19 => ?_
    refine W.region ?_
    refine WL.assign (v := .int .i64 10) rfl ?_
    refine WL.nil ?_
    refine hK19 _ _ ?_
    refine W.ret ?_
    have hr := Option.some.inj hf; subst hr
    exact ⟨_, resOk_one rfl rfl, (), rfl, (hs.mask []).pick []⟩ }
    {
    refine W.cond_false (bool_tr h15_14 hc18) ?_
    refine W.skip ?_
    refine hK13 _ _ ?_
    refine W.seqK fun K20 hK20 => ?_
    refine W.seqK fun K21 hK21 => ?_
    have Jk24 : ∀ (x23 : Bool) (ρ : Env) (w : World), ρ 29 = .bool x23 → St ok (bz w0) w [] [] → esref39_validOperation.j1 x23 = some r → K21 ρ w := by
      intro x23 ρ w h22_29 hs hf
      refine hK21 _ _ ?_
      unfold esref39_validOperation.j1 at hf
      rcases iteE hf with ⟨hc25, hf⟩ | ⟨hc25, hf⟩
      {
      refine W.cond_true (bool_tr h22_29 hc25) ?_
      refine W.seqK fun K26 hK26 => ?_
      refine W.region ?_
      refine WL.assign (v := .int .i64 9) rfl ?_
      refine WL.nil ?_
      refine hK26 _ _ ?_
      refine W.ret ?_
      have hr := Option.some.inj hf; subst hr
      exact ⟨_, resOk_one rfl rfl, (), rfl, (hs.mask []).pick []⟩ }
      {
      refine W.cond_false (bool_tr h22_29 hc25) ?_
      refine W.skip ?_
      refine hK20 _ _ ?_
      refine W.seqK fun K27 hK27 => ?_
      refine W.region ?_
      refine WL.assign (v := .int .i64 0) rfl ?_
      refine WL.nil ?_
      refine hK27 _ _ ?_
      refine W.ret ?_
      have hr := Option.some.inj hf; subst hr
      exact ⟨_, resOk_one rfl rfl, (), rfl, (hs.mask []).pick []⟩ }
    refine W.region ?_
    refine WL.fieldAddr (m := 4) h15_1 FA35_4 rfl ?_
    refine WL.loadF (z := x1.Call) F_history_Operation_Call hs 0 rfl 0 rfl rfl TI3 (.inr rfl) rfl rfl (fun v28 hs => ?_)
    obtain rfl := hs.int 0 rfl
    refine WL.bin (v := .bool (decide (x1.Call < 1))) rfl rfl (ib_lss _ _ _) ?_
    refine WL.move (v := .bool (decide (x1.Call < 1))) rfl ?_
    rcases iteE hf with ⟨hc29, hf⟩ | ⟨hc29, hf⟩
    {
    refine WL.pass ((wanted_of rfl rfl (bool_tr rfl hc29)).trans rfl) rfl ?_
    refine WL.pass ((wanted_of rfl rfl (bool_tr rfl hc29)).trans rfl) rfl ?_
    refine WL.pass ((wanted_of rfl rfl (bool_tr rfl hc29)).trans rfl) rfl ?_
    refine WL.pass ((wanted_of rfl rfl (bool_tr rfl hc29)).trans rfl) rfl ?_
    refine WL.pass (wanted_undef rfl rfl rfl) rfl ?_
    refine WL.pass (wanted_undef rfl rfl rfl) rfl ?_
    refine WL.pass (wanted_undef rfl rfl rfl) rfl ?_
    refine WL.pass (wanted_undef rfl rfl rfl) rfl ?_
    refine WL.pass (wanted_undef rfl rfl rfl) rfl ?_
    refine WL.pass ((wanted_of rfl rfl (bool_tr rfl hc29)).trans rfl) rfl ?_
    refine WL.pickT (v := .bool true) (bool_tr rfl hc29) rfl ?_
    refine WL.nil ?_
    exact Jk24 true _ _ rfl ((hs.mask []).pick []) hf }
    {
    refine WL.fieldAddr (m := 5) h15_1 FA35_5 rfl ?_ (hg := (wanted_of rfl rfl (bool_tr rfl hc29)).trans rfl)
    refine WL.loadF (z := x1.Return) F_history_Operation_Return hs 0 rfl 1 rfl rfl TI3 (.inr rfl) rfl rfl (fun v30 hs => ?_) (hg := (wanted_of rfl rfl (bool_tr rfl hc29)).trans rfl)
    obtain rfl := hs.int 0 rfl
    refine WL.bin (v := .bool (x1.Return != 0)) rfl rfl (ib_neq _ _ _) ?_ (hg := (wanted_of rfl rfl (bool_tr rfl hc29)).trans rfl)
    refine WL.move (v := .bool (x1.Return != 0)) rfl ?_ (hg := (wanted_of rfl rfl (bool_tr rfl hc29)).trans rfl)
    rcases iteE hf with ⟨hc31, hf⟩ | ⟨hc31, hf⟩
    {
    refine WL.fieldAddr (m := 5) h15_1 FA35_5 rfl ?_ (hg := (wanted_of rfl rfl (bool_tr rfl hc31)).trans rfl)
    refine WL.loadF (z := x1.Return) F_history_Operation_Return hs 0 rfl 2 rfl rfl TI3 (.inr rfl) rfl rfl (fun v32 hs => ?_) (hg := (wanted_of rfl rfl (bool_tr rfl hc31)).trans rfl)
    obtain rfl := hs.int 0 rfl
    refine WL.fieldAddr (m := 4) h15_1 FA35_4 rfl ?_ (hg := (wanted_of rfl rfl (bool_tr rfl hc31)).trans rfl)
    refine WL.loadF (z := x1.Call) F_history_Operation_Call hs 0 rfl 3 rfl rfl TI3 (.inr rfl) rfl rfl (fun v33 hs => ?_) (hg := (wanted_of rfl rfl (bool_tr rfl hc31)).trans rfl)
    obtain rfl := hs.int 0 rfl
    refine WL.bin (v := .bool (decide (x1.Return ≤ x1.Call))) rfl rfl (ib_leq _ _ _) ?_ (hg := (wanted_of rfl rfl (bool_tr rfl hc31)).trans rfl)
    refine WL.pickT (v := .bool (decide (x1.Return ≤ x1.Call))) (bool_tr rfl hc31) rfl ?_ (hg := (wanted_of rfl rfl (bool_tr rfl hc29)).trans rfl)
    refine WL.pickF (v := .bool (decide (x1.Return ≤ x1.Call))) (bool_tr rfl hc29) rfl ?_
    refine WL.nil ?_
    exact Jk24 (decide (x1.Return ≤ x1.Call)) _ _ rfl ((hs.mask []).pick []) hf }
    {
    refine WL.pass ((wanted_of rfl rfl (bool_tr rfl hc31)).trans rfl) rfl ?_
    refine WL.pass ((wanted_of rfl rfl (bool_tr rfl hc31)).trans rfl) rfl ?_
    refine WL.pass ((wanted_of rfl rfl (bool_tr rfl hc31)).trans rfl) rfl ?_
    refine WL.pass ((wanted_of rfl rfl (bool_tr rfl hc31)).trans rfl) rfl ?_
    refine WL.pass ((wanted_of rfl rfl (bool_tr rfl hc31)).trans rfl) rfl ?_
    refine WL.pickF (v := .bool false) (bool_tr rfl hc31) rfl ?_ (hg := (wanted_of rfl rfl (bool_tr rfl hc29)).trans rfl)
    refine WL.pickF (v := .bool false) (bool_tr rfl hc29) rfl ?_
    refine WL.nil ?_
    exact Jk24 false _ _ rfl ((hs.mask []).pick []) hf } } }
  refine W.region ?_
  refine WL.fieldAddr (m := 1) rfl FA35_1 rfl ?_
  refine WL.loadF (z := x1.Kind) F_history_Operation_Kind hs 0 rfl 1 rfl rfl TI3 (.inr rfl) rfl rfl (fun v34 hs => ?_)
  obtain rfl := hs.int 0 rfl
  refine WL.bin (v := .bool (decide (x1.Kind < 1))) rfl rfl (ib_lss _ _ _) ?_
  refine WL.move (v := .bool (decide (x1.Kind < 1))) rfl ?_
  rcases iteE hf with ⟨hc35, hf⟩ | ⟨hc35, hf⟩
  {
  refine WL.pass ((wanted_of rfl rfl (bool_tr rfl hc35)).trans rfl) rfl ?_
  refine WL.pass ((wanted_of rfl rfl (bool_tr rfl hc35)).trans rfl) rfl ?_
  refine WL.pass ((wanted_of rfl rfl (bool_tr rfl hc35)).trans rfl) rfl ?_
  refine WL.pickT (v := .bool true) (bool_tr rfl hc35) rfl ?_
  refine WL.nil ?_
  exact Jk17 true _ _ rfl rfl ((hs.mask [true]).pick [2]) hf }
  {
  refine WL.fieldAddr (m := 1) rfl FA35_1 rfl ?_ (hg := (wanted_of rfl rfl (bool_tr rfl hc35)).trans rfl)
  refine WL.loadF (z := x1.Kind) F_history_Operation_Kind hs 0 rfl 2 rfl rfl TI3 (.inr rfl) rfl rfl (fun v36 hs => ?_) (hg := (wanted_of rfl rfl (bool_tr rfl hc35)).trans rfl)
  obtain rfl := hs.int 0 rfl
  refine WL.bin (v := .bool (decide (3 < x1.Kind))) rfl rfl (ib_gtr _ _ _) ?_ (hg := (wanted_of rfl rfl (bool_tr rfl hc35)).trans rfl)
  refine WL.pickF (v := .bool (decide (3 < x1.Kind))) (bool_tr rfl hc35) rfl ?_
  refine WL.nil ?_
  exact Jk17 (decide (3 < x1.Kind)) _ _ rfl rfl ((hs.mask [true]).pick [3]) hf } }
theorem esref14_ValidateEffect.calls {ok : Nat → Prop} {w0 : World} {x1 : api_Effect} {v2 : Value} {r : Int} (hf : esref14_ValidateEffect x1 = some r) (i0 : (vl t_api_Effect x1 v2).holds ok w0) :
    Calls Try.prog 64 #[v2] w0 fun e w' => ∃ v, e = .returned v ∧ ∃ y : Unit, v = .int .i64 r ∧ St ok (bz w0) w' [] [] := by
  unfold esref14_ValidateEffect at hf
  refine calls_of_W (fn := Try.f64) (N := 85) Try.func64 rfl Try.ntmps64 rfl ?_
  have hs : St ok (bz w0) w0 [vl t_api_Effect x1 v2] [] := St.init (All.cons i0 All.nil)
  clear i0
  obtain ⟨cs3, hl4, rfl⟩ := hs.aggv (n := 5) 0 rfl rfl rfl
  refine W.seqK fun K5 hK5 => ?_
  refine W.region ?_
  refine WL.box (vs := cs3) hs rfl rfl (fun g6 w hs => ?_)
  refine WL.assign (v := .int .i64 0) rfl ?_
  refine WL.nil ?_
  refine hK5 _ _ ?_
  refine W.seqK fun K7 hK7 => ?_
  refine W.block ?_
  refine W.seqK fun K8 hK8 => ?_
  have Jk11 : ∀ (x10 : Bool) (ρ : Env) (w : World), ρ 1 = .pointer (some ⟨g6, 0, none⟩) → ρ 3 = .bool x10 → St ok (bz w0) w [vl t_api_Effect x1 (.agg cs3.toArray)] [blk g6 72 cs3] → esref14_ValidateEffect.j6 x1 x10 = some r → K8 ρ w := by
    intro x10 ρ w h9_1 h9_3 hs hf
    refine hK8 _ _ ?_
    unfold esref14_ValidateEffect.j6 at hf
    rcases iteE hf with ⟨hc12, hf⟩ | ⟨hc12, hf⟩
    {
    refine W.cond_true (bool_tr h9_3 hc12) ?_
    refine W.seqK fun K13 hK13 => ?_
    refine W.region ?_
    refine WL.assign (v := .int .i64 10) rfl ?_
    refine WL.nil ?_
    refine hK13 _ _ ?_
    refine W.ret ?_
    have hr := Option.some.inj hf; subst hr
    exact ⟨_, resOk_one rfl rfl, (), rfl, (hs.mask []).pick []⟩ }
    {
    refine W.cond_false (bool_tr h9_3 hc12) ?_
    refine W.seqK fun K14 hK14 => ?_
    have Jk17 : ∀ (x16 : Bool) (ρ : Env) (w : World), ρ 1 = .pointer (some ⟨g6, 0, none⟩) → ρ 12 = .bool x16 → St ok (bz w0) w [vl t_api_Effect x1 (.agg cs3.toArray)] [blk g6 72 cs3] → esref14_ValidateEffect.j5 x1 x16 = some r → K14 ρ w := by
      intro x16 ρ w h15_1 h15_12 hs hf
      refine hK14 _ _ ?_
      unfold esref14_ValidateEffect.j5 at hf
      rcases iteE hf with ⟨hc18, hf⟩ | ⟨hc18, hf⟩
      {
      refine W.cond_true (bool_tr h15_12 hc18) ?_
      refine W.seqK fun K19 hK19 => ?_
      refine W.region ?_
      refine WL.assign (v := .int .i64 2) rfl ?_
      refine WL.nil ?_
      refine hK19 _ _ ?_
      refine W.ret ?_
      have hr := Option.some.inj hf; subst hr
      exact ⟨_, resOk_one rfl rfl, (), rfl, (hs.mask []).pick []⟩ }
      {
      refine W.cond_false (bool_tr h15_12 hc18) ?_
      refine W.seqK fun K20 hK20 => ?_
      have Jk23 : ∀ (x22 : Bool) (ρ : Env) (w : World), ρ 1 = .pointer (some ⟨g6, 0, none⟩) → ρ 21 = .bool x22 → St ok (bz w0) w [vl t_api_Effect x1 (.agg cs3.toArray)] [blk g6 72 cs3] → esref14_ValidateEffect.j4 x1 x22 = some r → K20 ρ w := by
        intro x22 ρ w h21_1 h21_21 hs hf
        refine hK20 _ _ ?_
        unfold esref14_ValidateEffect.j4 at hf
        rcases iteE hf with ⟨hc24, hf⟩ | ⟨hc24, hf⟩
        {
        refine W.cond_true (bool_tr h21_21 hc24) ?_
        refine W.seqK fun K25 hK25 => ?_
        refine W.region ?_
        refine WL.assign (v := .int .i64 3) rfl ?_
        refine WL.nil ?_
        refine hK25 _ _ ?_
        refine W.ret ?_
        have hr := Option.some.inj hf; subst hr
        exact ⟨_, resOk_one rfl rfl, (), rfl, (hs.mask []).pick []⟩ }
        {
        refine W.cond_false (bool_tr h21_21 hc24) ?_
        refine W.seqK fun K26 hK26 => ?_
        have Jk29 : ∀ (x28 : Bool) (ρ : Env) (w : World), ρ 1 = .pointer (some ⟨g6, 0, none⟩) → ρ 38 = .bool x28 → St ok (bz w0) w [vl t_api_Effect x1 (.agg cs3.toArray)] [blk g6 72 cs3] → esref14_ValidateEffect.j3 x1 x28 = some r → K26 ρ w := by
          intro x28 ρ w h27_1 h27_38 hs hf
          refine hK26 _ _ ?_
          unfold esref14_ValidateEffect.j3 at hf
          rcases iteE hf with ⟨hc30, hf⟩ | ⟨hc30, hf⟩
          {
          refine W.cond_true (bool_tr h27_38 hc30) ?_
          refine W.seqK fun K31 hK31 => ?_
          refine W.region ?_
          refine WL.assign (v := .int .i64 9) rfl ?_
          refine WL.nil ?_
          refine hK31 _ _ ?_
          refine W.ret ?_
          have hr := Option.some.inj hf; subst hr
          exact ⟨_, resOk_one rfl rfl, (), rfl, (hs.mask []).pick []⟩ }
          {
          refine W.cond_false (bool_tr h27_38 hc30) ?_
          refine W.seqK fun K32 hK32 => ?_
          have Jk35 : ∀ (x34 : Bool) (ρ : Env) (w : World), ρ 1 = .pointer (some ⟨g6, 0, none⟩) → ρ 52 = .bool x34 → St ok (bz w0) w [vl t_api_Effect x1 (.agg cs3.toArray)] [blk g6 72 cs3] → esref14_ValidateEffect.j2 x1 x34 = some r → K32 ρ w := by
            intro x34 ρ w h33_1 h33_52 hs hf
            refine hK32 _ _ ?_
            unfold esref14_ValidateEffect.j2 at hf
            rcases iteE hf with ⟨hc36, hf⟩ | ⟨hc36, hf⟩
            {
            refine W.cond_true (bool_tr h33_52 hc36) ?_
            refine W.seqK fun K37 hK37 => ?_
            refine W.region ?_
            refine WL.assign (v := .int .i64 9) rfl ?_
            refine WL.nil ?_
            refine hK37 _ _ ?_
            refine W.ret ?_
            have hr := Option.some.inj hf; subst hr
            exact ⟨_, resOk_one rfl rfl, (), rfl, (hs.mask []).pick []⟩ }
            {
            refine W.cond_false (bool_tr h33_52 hc36) ?_
            refine W.seqK fun K38 hK38 => ?_
            have Jk41 : ∀ (x40 : Bool) (ρ : Env) (w : World), ρ 66 = .bool x40 → St ok (bz w0) w [] [] → esref14_ValidateEffect.j1 x40 = some r → K38 ρ w := by
              intro x40 ρ w h39_66 hs hf
              refine hK38 _ _ ?_
              unfold esref14_ValidateEffect.j1 at hf
              rcases iteE hf with ⟨hc42, hf⟩ | ⟨hc42, hf⟩
              {
              refine W.cond_true (bool_tr h39_66 hc42) ?_
              refine W.seqK fun K43 hK43 => ?_
              refine W.region ?_
              refine WL.assign (v := .int .i64 2) rfl ?_
              refine WL.nil ?_
              refine hK43 _ _ ?_
              refine W.ret ?_
              have hr := Option.some.inj hf; subst hr
              exact ⟨_, resOk_one rfl rfl, (), rfl, (hs.mask []).pick []⟩ }
              {
              refine W.cond_false (bool_tr h39_66 hc42) ?_
              refine W.skip ?_
              refine hK7 _ _ ?_
              refine W.seqK fun K44 hK44 => ?_
              refine W.region ?_
              refine WL.assign (v := .int .i64 0) rfl ?_
              refine WL.nil ?_
              refine hK44 _ _ ?_
              refine W.ret ?_
              have hr := Option.some.inj hf; subst hr
              exact ⟨_, resOk_one rfl rfl, (), rfl, (hs.mask []).pick []⟩ }
            refine W.region ?_
            refine WL.fieldAddr (m := 0) h33_1 FA72_0 rfl ?_
            refine WL.loadF (z := x1.Kind) F_api_Effect_Kind hs 0 rfl 0 rfl rfl TI3 (.inr rfl) rfl rfl (fun v45 hs => ?_)
            obtain rfl := hs.int 0 rfl
            refine WL.bin (v := .bool (x1.Kind == 2)) rfl rfl (ib_eql _ _ _) ?_
            refine WL.move (v := .bool (x1.Kind == 2)) rfl ?_
            rcases iteE hf with ⟨hc46, hf⟩ | ⟨hc46, hf⟩
            {
            refine WL.pass ((wanted_of rfl rfl (bool_tr rfl hc46)).trans rfl) rfl ?_
            refine WL.pass ((wanted_of rfl rfl (bool_tr rfl hc46)).trans rfl) rfl ?_
            refine WL.pass ((wanted_of rfl rfl (bool_tr rfl hc46)).trans rfl) rfl ?_
            refine WL.pickT (v := .bool true) (bool_tr rfl hc46) rfl ?_
            refine WL.move (v := .bool true) rfl ?_
            refine WL.pass ((wanted_of rfl rfl rfl).trans rfl) rfl ?_
            refine WL.pass ((wanted_of rfl rfl rfl).trans rfl) rfl ?_
            refine WL.pass ((wanted_of rfl rfl rfl).trans rfl) rfl ?_
            refine WL.pickT (v := .bool true) rfl rfl ?_
            refine WL.move (v := .bool true) rfl ?_
            refine WL.fieldAddr (m := 4) h33_1 FA72_4 rfl ?_ (hg := (wanted_of rfl rfl rfl).trans rfl)
            refine WL.loadF (z := x1.S) F_api_Effect_S hs 0 rfl 1 rfl rfl TI9 (.inr rfl) rfl rfl (fun v47 hs => ?_) (hg := (wanted_of rfl rfl rfl).trans rfl)
            obtain rfl := hs.str 0 rfl
            refine WL.binS (v := .bool (x1.S != ([] : List UInt8))) rfl rfl (sb_neq _ _) ?_ (hg := (wanted_of rfl rfl rfl).trans rfl)
            refine WL.pickT (v := .bool (x1.S != ([] : List UInt8))) rfl rfl ?_
            refine WL.assign (v := .bool (x1.S != ([] : List UInt8))) rfl ?_
            refine WL.nil ?_
            exact Jk41 (x1.S != ([] : List UInt8)) _ _ rfl ((hs.mask []).pick []) hf }
            {
            refine WL.fieldAddr (m := 0) h33_1 FA72_0 rfl ?_ (hg := (wanted_of rfl rfl (bool_tr rfl hc46)).trans rfl)
            refine WL.loadF (z := x1.Kind) F_api_Effect_Kind hs 0 rfl 1 rfl rfl TI3 (.inr rfl) rfl rfl (fun v48 hs => ?_) (hg := (wanted_of rfl rfl (bool_tr rfl hc46)).trans rfl)
            obtain rfl := hs.int 0 rfl
            refine WL.bin (v := .bool (x1.Kind == 3)) rfl rfl (ib_eql _ _ _) ?_ (hg := (wanted_of rfl rfl (bool_tr rfl hc46)).trans rfl)
            refine WL.pickF (v := .bool (x1.Kind == 3)) (bool_tr rfl hc46) rfl ?_
            refine WL.move (v := .bool (x1.Kind == 3)) rfl ?_
            rcases iteE hf with ⟨hc49, hf⟩ | ⟨hc49, hf⟩
            {
            refine WL.pass ((wanted_of rfl rfl (bool_tr rfl hc49)).trans rfl) rfl ?_
            refine WL.pass ((wanted_of rfl rfl (bool_tr rfl hc49)).trans rfl) rfl ?_
            refine WL.pass ((wanted_of rfl rfl (bool_tr rfl hc49)).trans rfl) rfl ?_
            refine WL.pickT (v := .bool true) (bool_tr rfl hc49) rfl ?_
            refine WL.move (v := .bool true) rfl ?_
            refine WL.fieldAddr (m := 4) h33_1 FA72_4 rfl ?_ (hg := (wanted_of rfl rfl rfl).trans rfl)
            refine WL.loadF (z := x1.S) F_api_Effect_S hs 0 rfl 2 rfl rfl TI9 (.inr rfl) rfl rfl (fun v50 hs => ?_) (hg := (wanted_of rfl rfl rfl).trans rfl)
            obtain rfl := hs.str 0 rfl
            refine WL.binS (v := .bool (x1.S != ([] : List UInt8))) rfl rfl (sb_neq _ _) ?_ (hg := (wanted_of rfl rfl rfl).trans rfl)
            refine WL.pickT (v := .bool (x1.S != ([] : List UInt8))) rfl rfl ?_
            refine WL.assign (v := .bool (x1.S != ([] : List UInt8))) rfl ?_
            refine WL.nil ?_
            exact Jk41 (x1.S != ([] : List UInt8)) _ _ rfl ((hs.mask []).pick []) hf }
            {
            refine WL.fieldAddr (m := 0) h33_1 FA72_0 rfl ?_ (hg := (wanted_of rfl rfl (bool_tr rfl hc49)).trans rfl)
            refine WL.loadF (z := x1.Kind) F_api_Effect_Kind hs 0 rfl 2 rfl rfl TI3 (.inr rfl) rfl rfl (fun v51 hs => ?_) (hg := (wanted_of rfl rfl (bool_tr rfl hc49)).trans rfl)
            obtain rfl := hs.int 0 rfl
            refine WL.bin (v := .bool (x1.Kind == 5)) rfl rfl (ib_eql _ _ _) ?_ (hg := (wanted_of rfl rfl (bool_tr rfl hc49)).trans rfl)
            refine WL.pickF (v := .bool (x1.Kind == 5)) (bool_tr rfl hc49) rfl ?_
            refine WL.move (v := .bool (x1.Kind == 5)) rfl ?_
            rcases iteE hf with ⟨hc52, hf⟩ | ⟨hc52, hf⟩
            {
            refine WL.fieldAddr (m := 4) h33_1 FA72_4 rfl ?_ (hg := (wanted_of rfl rfl (bool_tr rfl hc52)).trans rfl)
            refine WL.loadF (z := x1.S) F_api_Effect_S hs 0 rfl 3 rfl rfl TI9 (.inr rfl) rfl rfl (fun v53 hs => ?_) (hg := (wanted_of rfl rfl (bool_tr rfl hc52)).trans rfl)
            obtain rfl := hs.str 0 rfl
            refine WL.binS (v := .bool (x1.S != ([] : List UInt8))) rfl rfl (sb_neq _ _) ?_ (hg := (wanted_of rfl rfl (bool_tr rfl hc52)).trans rfl)
            refine WL.pickT (v := .bool (x1.S != ([] : List UInt8))) (bool_tr rfl hc52) rfl ?_
            refine WL.assign (v := .bool (x1.S != ([] : List UInt8))) rfl ?_
            refine WL.nil ?_
            exact Jk41 (x1.S != ([] : List UInt8)) _ _ rfl ((hs.mask []).pick []) hf }
            {
            refine WL.pass ((wanted_of rfl rfl (bool_tr rfl hc52)).trans rfl) rfl ?_
            refine WL.pass ((wanted_of rfl rfl (bool_tr rfl hc52)).trans rfl) rfl ?_
            refine WL.pass ((wanted_of rfl rfl (bool_tr rfl hc52)).trans rfl) rfl ?_
            refine WL.pickF (v := .bool false) (bool_tr rfl hc52) rfl ?_
            refine WL.assign (v := .bool false) rfl ?_
            refine WL.nil ?_
            exact Jk41 false _ _ rfl ((hs.mask []).pick []) hf } } } }
          refine W.region ?_
          refine WL.fieldAddr (m := 0) h27_1 FA72_0 rfl ?_
          refine WL.loadF (z := x1.Kind) F_api_Effect_Kind hs 0 rfl 0 rfl rfl TI3 (.inr rfl) rfl rfl (fun v54 hs => ?_)
          obtain rfl := hs.int 0 rfl
          refine WL.bin (v := .bool (x1.Kind == 4)) rfl rfl (ib_eql _ _ _) ?_
          refine WL.move (v := .bool (x1.Kind == 4)) rfl ?_
          rcases iteE hf with ⟨hc55, hf⟩ | ⟨hc55, hf⟩
          {
          refine WL.pass ((wanted_of rfl rfl (bool_tr rfl hc55)).trans rfl) rfl ?_
          refine WL.pass ((wanted_of rfl rfl (bool_tr rfl hc55)).trans rfl) rfl ?_
          refine WL.pass ((wanted_of rfl rfl (bool_tr rfl hc55)).trans rfl) rfl ?_
          refine WL.pickT (v := .bool true) (bool_tr rfl hc55) rfl ?_
          refine WL.move (v := .bool true) rfl ?_
          refine WL.fieldAddr (m := 3) h27_1 FA72_3 rfl ?_ (hg := (wanted_of rfl rfl rfl).trans rfl)
          refine WL.loadF (z := x1.N) F_api_Effect_N hs 0 rfl 1 rfl rfl TI2 (.inr rfl) rfl rfl (fun v56 hs => ?_) (hg := (wanted_of rfl rfl rfl).trans rfl)
          obtain rfl := hs.int 0 rfl
          refine WL.bin (v := .bool (x1.N != 0)) rfl rfl (ib_neq _ _ _) ?_ (hg := (wanted_of rfl rfl rfl).trans rfl)
          refine WL.pickT (v := .bool (x1.N != 0)) rfl rfl ?_
          refine WL.assign (v := .bool (x1.N != 0)) rfl ?_
          refine WL.nil ?_
          exact Jk35 (x1.N != 0) _ _ h27_1 rfl ((hs.mask [true]).pick [2]) hf }
          {
          refine WL.fieldAddr (m := 0) h27_1 FA72_0 rfl ?_ (hg := (wanted_of rfl rfl (bool_tr rfl hc55)).trans rfl)
          refine WL.loadF (z := x1.Kind) F_api_Effect_Kind hs 0 rfl 1 rfl rfl TI3 (.inr rfl) rfl rfl (fun v57 hs => ?_) (hg := (wanted_of rfl rfl (bool_tr rfl hc55)).trans rfl)
          obtain rfl := hs.int 0 rfl
          refine WL.bin (v := .bool (x1.Kind == 5)) rfl rfl (ib_eql _ _ _) ?_ (hg := (wanted_of rfl rfl (bool_tr rfl hc55)).trans rfl)
          refine WL.pickF (v := .bool (x1.Kind == 5)) (bool_tr rfl hc55) rfl ?_
          refine WL.move (v := .bool (x1.Kind == 5)) rfl ?_
          rcases iteE hf with ⟨hc58, hf⟩ | ⟨hc58, hf⟩
          {
          refine WL.fieldAddr (m := 3) h27_1 FA72_3 rfl ?_ (hg := (wanted_of rfl rfl (bool_tr rfl hc58)).trans rfl)
          refine WL.loadF (z := x1.N) F_api_Effect_N hs 0 rfl 2 rfl rfl TI2 (.inr rfl) rfl rfl (fun v59 hs => ?_) (hg := (wanted_of rfl rfl (bool_tr rfl hc58)).trans rfl)
          obtain rfl := hs.int 0 rfl
          refine WL.bin (v := .bool (x1.N != 0)) rfl rfl (ib_neq _ _ _) ?_ (hg := (wanted_of rfl rfl (bool_tr rfl hc58)).trans rfl)
          refine WL.pickT (v := .bool (x1.N != 0)) (bool_tr rfl hc58) rfl ?_
          refine WL.assign (v := .bool (x1.N != 0)) rfl ?_
          refine WL.nil ?_
          exact Jk35 (x1.N != 0) _ _ h27_1 rfl ((hs.mask [true]).pick [3]) hf }
          {
          refine WL.pass ((wanted_of rfl rfl (bool_tr rfl hc58)).trans rfl) rfl ?_
          refine WL.pass ((wanted_of rfl rfl (bool_tr rfl hc58)).trans rfl) rfl ?_
          refine WL.pass ((wanted_of rfl rfl (bool_tr rfl hc58)).trans rfl) rfl ?_
          refine WL.pickF (v := .bool false) (bool_tr rfl hc58) rfl ?_
          refine WL.assign (v := .bool false) rfl ?_
          refine WL.nil ?_
          exact Jk35 false _ _ h27_1 rfl ((hs.mask [true]).pick [2]) hf } } }
        refine W.region ?_
        refine WL.fieldAddr (m := 0) h21_1 FA72_0 rfl ?_
        refine WL.loadF (z := x1.Kind) F_api_Effect_Kind hs 0 rfl 0 rfl rfl TI3 (.inr rfl) rfl rfl (fun v60 hs => ?_)
        obtain rfl := hs.int 0 rfl
        refine WL.bin (v := .bool (x1.Kind == 3)) rfl rfl (ib_eql _ _ _) ?_
        refine WL.move (v := .bool (x1.Kind == 3)) rfl ?_
        rcases iteE hf with ⟨hc61, hf⟩ | ⟨hc61, hf⟩
        {
        refine WL.fieldAddr (m := 3) h21_1 FA72_3 rfl ?_ (hg := (wanted_of rfl rfl (bool_tr rfl hc61)).trans rfl)
        refine WL.loadF (z := x1.N) F_api_Effect_N hs 0 rfl 1 rfl rfl TI2 (.inr rfl) rfl rfl (fun v62 hs => ?_) (hg := (wanted_of rfl rfl (bool_tr rfl hc61)).trans rfl)
        obtain rfl := hs.int 0 rfl
        refine WL.bin (v := .bool (decide (x1.N < (-1000000)))) rfl rfl (ib_lss _ _ _) ?_ (hg := (wanted_of rfl rfl (bool_tr rfl hc61)).trans rfl)
        refine WL.move (v := .bool (decide (x1.N < (-1000000)))) rfl ?_ (hg := (wanted_of rfl rfl (bool_tr rfl hc61)).trans rfl)
        rcases iteE hf with ⟨hc63, hf⟩ | ⟨hc63, hf⟩
        {
        refine WL.pass ((wanted_of rfl rfl (bool_tr rfl hc63)).trans rfl) rfl ?_
        refine WL.pass ((wanted_of rfl rfl (bool_tr rfl hc63)).trans rfl) rfl ?_
        refine WL.pass ((wanted_of rfl rfl (bool_tr rfl hc63)).trans rfl) rfl ?_
        refine WL.pickT (v := .bool true) (bool_tr rfl hc63) rfl ?_ (hg := (wanted_of rfl rfl (bool_tr rfl hc61)).trans rfl)
        refine WL.pickT (v := .bool true) (bool_tr rfl hc61) rfl ?_
        refine WL.assign (v := .bool true) rfl ?_
        refine WL.nil ?_
        exact Jk29 true _ _ h21_1 rfl ((hs.mask [true]).pick [2]) hf }
        {
        refine WL.fieldAddr (m := 3) h21_1 FA72_3 rfl ?_ (hg := (wanted_of rfl rfl (bool_tr rfl hc63)).trans rfl)
        refine WL.loadF (z := x1.N) F_api_Effect_N hs 0 rfl 2 rfl rfl TI2 (.inr rfl) rfl rfl (fun v64 hs => ?_) (hg := (wanted_of rfl rfl (bool_tr rfl hc63)).trans rfl)
        obtain rfl := hs.int 0 rfl
        refine WL.bin (v := .bool (decide (1000000 < x1.N))) rfl rfl (ib_gtr _ _ _) ?_ (hg := (wanted_of rfl rfl (bool_tr rfl hc63)).trans rfl)
        refine WL.pickF (v := .bool (decide (1000000 < x1.N))) (bool_tr rfl hc63) rfl ?_ (hg := (wanted_of rfl rfl (bool_tr rfl hc61)).trans rfl)
        refine WL.pickT (v := .bool (decide (1000000 < x1.N))) (bool_tr rfl hc61) rfl ?_
        refine WL.assign (v := .bool (decide (1000000 < x1.N))) rfl ?_
        refine WL.nil ?_
        exact Jk29 (decide (1000000 < x1.N)) _ _ h21_1 rfl ((hs.mask [true]).pick [3]) hf } }
        {
        refine WL.pass ((wanted_of rfl rfl (bool_tr rfl hc61)).trans rfl) rfl ?_
        refine WL.pass ((wanted_of rfl rfl (bool_tr rfl hc61)).trans rfl) rfl ?_
        refine WL.pass ((wanted_of rfl rfl (bool_tr rfl hc61)).trans rfl) rfl ?_
        refine WL.pass ((wanted_of rfl rfl (bool_tr rfl hc61)).trans rfl) rfl ?_
        refine WL.pass (wanted_undef rfl rfl rfl) rfl ?_
        refine WL.pass (wanted_undef rfl rfl rfl) rfl ?_
        refine WL.pass (wanted_undef rfl rfl rfl) rfl ?_
        refine WL.pass ((wanted_of rfl rfl (bool_tr rfl hc61)).trans rfl) rfl ?_
        refine WL.pickF (v := .bool false) (bool_tr rfl hc61) rfl ?_
        refine WL.assign (v := .bool false) rfl ?_
        refine WL.nil ?_
        exact Jk29 false _ _ h21_1 rfl ((hs.mask [true]).pick [1]) hf } }
      refine W.region ?_
      refine WL.fieldAddr (m := 1) h15_1 FA72_1 rfl ?_
      refine WL.loadF (z := x1.Object) F_api_Effect_Object hs 0 rfl 0 rfl rfl TI9 (.inr rfl) rfl rfl (fun v65 hs => ?_)
      obtain rfl := hs.str 0 rfl
      refine WL.len (v := bstr x1.Object) rfl (len_string UN9) ?_
      refine WL.bin (v := .bool (decide (16 < ((x1.Object).length : Int)))) rfl rfl (ib_gtr _ _ _) ?_
      refine WL.move (v := .bool (decide (16 < ((x1.Object).length : Int)))) rfl ?_
      rcases iteE hf with ⟨hc66, hf⟩ | ⟨hc66, hf⟩
      {
      refine WL.pass ((wanted_of rfl rfl (bool_tr rfl hc66)).trans rfl) rfl ?_
      refine WL.pass ((wanted_of rfl rfl (bool_tr rfl hc66)).trans rfl) rfl ?_
      refine WL.pass ((wanted_of rfl rfl (bool_tr rfl hc66)).trans rfl) rfl ?_
      refine WL.pass ((wanted_of rfl rfl (bool_tr rfl hc66)).trans rfl) rfl ?_
      refine WL.pickT (v := .bool true) (bool_tr rfl hc66) rfl ?_
      refine WL.move (v := .bool true) rfl ?_
      refine WL.pass ((wanted_of rfl rfl rfl).trans rfl) rfl ?_
      refine WL.pass ((wanted_of rfl rfl rfl).trans rfl) rfl ?_
      refine WL.pass ((wanted_of rfl rfl rfl).trans rfl) rfl ?_
      refine WL.pass ((wanted_of rfl rfl rfl).trans rfl) rfl ?_
      refine WL.pickT (v := .bool true) rfl rfl ?_
      refine WL.assign (v := .bool true) rfl ?_
      refine WL.nil ?_
      exact Jk23 true _ _ h15_1 rfl ((hs.mask [true]).pick [1]) hf }
      {
      refine WL.fieldAddr (m := 2) h15_1 FA72_2 rfl ?_ (hg := (wanted_of rfl rfl (bool_tr rfl hc66)).trans rfl)
      refine WL.loadF (z := x1.Field) F_api_Effect_Field hs 0 rfl 1 rfl rfl TI9 (.inr rfl) rfl rfl (fun v67 hs => ?_) (hg := (wanted_of rfl rfl (bool_tr rfl hc66)).trans rfl)
      obtain rfl := hs.str 0 rfl
      refine WL.len (v := bstr x1.Field) rfl (len_string UN9) ?_ (hg := (wanted_of rfl rfl (bool_tr rfl hc66)).trans rfl)
      refine WL.bin (v := .bool (decide (16 < ((x1.Field).length : Int)))) rfl rfl (ib_gtr _ _ _) ?_ (hg := (wanted_of rfl rfl (bool_tr rfl hc66)).trans rfl)
      refine WL.pickF (v := .bool (decide (16 < ((x1.Field).length : Int)))) (bool_tr rfl hc66) rfl ?_
      refine WL.move (v := .bool (decide (16 < ((x1.Field).length : Int)))) rfl ?_
      rcases iteE hf with ⟨hc68, hf⟩ | ⟨hc68, hf⟩
      {
      refine WL.pass ((wanted_of rfl rfl (bool_tr rfl hc68)).trans rfl) rfl ?_
      refine WL.pass ((wanted_of rfl rfl (bool_tr rfl hc68)).trans rfl) rfl ?_
      refine WL.pass ((wanted_of rfl rfl (bool_tr rfl hc68)).trans rfl) rfl ?_
      refine WL.pass ((wanted_of rfl rfl (bool_tr rfl hc68)).trans rfl) rfl ?_
      refine WL.pickT (v := .bool true) (bool_tr rfl hc68) rfl ?_
      refine WL.assign (v := .bool true) rfl ?_
      refine WL.nil ?_
      exact Jk23 true _ _ h15_1 rfl ((hs.mask [true]).pick [2]) hf }
      {
      refine WL.fieldAddr (m := 4) h15_1 FA72_4 rfl ?_ (hg := (wanted_of rfl rfl (bool_tr rfl hc68)).trans rfl)
      refine WL.loadF (z := x1.S) F_api_Effect_S hs 0 rfl 2 rfl rfl TI9 (.inr rfl) rfl rfl (fun v69 hs => ?_) (hg := (wanted_of rfl rfl (bool_tr rfl hc68)).trans rfl)
      obtain rfl := hs.str 0 rfl
      refine WL.len (v := bstr x1.S) rfl (len_string UN9) ?_ (hg := (wanted_of rfl rfl (bool_tr rfl hc68)).trans rfl)
      refine WL.bin (v := .bool (decide (32 < ((x1.S).length : Int)))) rfl rfl (ib_gtr _ _ _) ?_ (hg := (wanted_of rfl rfl (bool_tr rfl hc68)).trans rfl)
      refine WL.pickF (v := .bool (decide (32 < ((x1.S).length : Int)))) (bool_tr rfl hc68) rfl ?_
      refine WL.assign (v := .bool (decide (32 < ((x1.S).length : Int)))) rfl ?_
      refine WL.nil ?_
      exact Jk23 (decide (32 < ((x1.S).length : Int))) _ _ h15_1 rfl ((hs.mask [true]).pick [3]) hf } } }
    refine W.region ?_
    refine WL.fieldAddr (m := 1) h9_1 FA72_1 rfl ?_
    refine WL.loadF (z := x1.Object) F_api_Effect_Object hs 0 rfl 0 rfl rfl TI9 (.inr rfl) rfl rfl (fun v70 hs => ?_)
    obtain rfl := hs.str 0 rfl
    refine WL.binS (v := .bool (x1.Object == ([] : List UInt8))) rfl rfl (sb_eql _ _) ?_
    refine WL.move (v := .bool (x1.Object == ([] : List UInt8))) rfl ?_
    rcases iteE hf with ⟨hc71, hf⟩ | ⟨hc71, hf⟩
    {
    refine WL.pass ((wanted_of rfl rfl (bool_tr rfl hc71)).trans rfl) rfl ?_
    refine WL.pass ((wanted_of rfl rfl (bool_tr rfl hc71)).trans rfl) rfl ?_
    refine WL.pass ((wanted_of rfl rfl (bool_tr rfl hc71)).trans rfl) rfl ?_
    refine WL.pickT (v := .bool true) (bool_tr rfl hc71) rfl ?_
    refine WL.assign (v := .bool true) rfl ?_
    refine WL.nil ?_
    exact Jk17 true _ _ h9_1 rfl ((hs.mask [true]).pick [1]) hf }
    {
    refine WL.fieldAddr (m := 2) h9_1 FA72_2 rfl ?_ (hg := (wanted_of rfl rfl (bool_tr rfl hc71)).trans rfl)
    refine WL.loadF (z := x1.Field) F_api_Effect_Field hs 0 rfl 1 rfl rfl TI9 (.inr rfl) rfl rfl (fun v72 hs => ?_) (hg := (wanted_of rfl rfl (bool_tr rfl hc71)).trans rfl)
    obtain rfl := hs.str 0 rfl
    refine WL.binS (v := .bool (x1.Field == ([] : List UInt8))) rfl rfl (sb_eql _ _) ?_ (hg := (wanted_of rfl rfl (bool_tr rfl hc71)).trans rfl)
    refine WL.pickF (v := .bool (x1.Field == ([] : List UInt8))) (bool_tr rfl hc71) rfl ?_
    refine WL.assign (v := .bool (x1.Field == ([] : List UInt8))) rfl ?_
    refine WL.nil ?_
    exact Jk17 (x1.Field == ([] : List UInt8)) _ _ h9_1 rfl ((hs.mask [true]).pick [2]) hf } }
  refine W.region ?_
  refine WL.fieldAddr (m := 0) rfl FA72_0 rfl ?_
  refine WL.loadF (z := x1.Kind) F_api_Effect_Kind hs 0 rfl 0 rfl rfl TI3 (.inr rfl) rfl rfl (fun v73 hs => ?_)
  obtain rfl := hs.int 0 rfl
  refine WL.bin (v := .bool (decide (x1.Kind < 1))) rfl rfl (ib_lss _ _ _) ?_
  refine WL.move (v := .bool (decide (x1.Kind < 1))) rfl ?_
  rcases iteE hf with ⟨hc74, hf⟩ | ⟨hc74, hf⟩
  {
  refine WL.pass ((wanted_of rfl rfl (bool_tr rfl hc74)).trans rfl) rfl ?_
  refine WL.pass ((wanted_of rfl rfl (bool_tr rfl hc74)).trans rfl) rfl ?_
  refine WL.pass ((wanted_of rfl rfl (bool_tr rfl hc74)).trans rfl) rfl ?_
  refine WL.pickT (v := .bool true) (bool_tr rfl hc74) rfl ?_
  refine WL.assign (v := .bool true) rfl ?_
  refine WL.nil ?_
  exact Jk11 true _ _ rfl rfl ((hs.mask [true]).pick [1]) hf }
  {
  refine WL.fieldAddr (m := 0) rfl FA72_0 rfl ?_ (hg := (wanted_of rfl rfl (bool_tr rfl hc74)).trans rfl)
  refine WL.loadF (z := x1.Kind) F_api_Effect_Kind hs 0 rfl 1 rfl rfl TI3 (.inr rfl) rfl rfl (fun v75 hs => ?_) (hg := (wanted_of rfl rfl (bool_tr rfl hc74)).trans rfl)
  obtain rfl := hs.int 0 rfl
  refine WL.bin (v := .bool (decide (5 < x1.Kind))) rfl rfl (ib_gtr _ _ _) ?_ (hg := (wanted_of rfl rfl (bool_tr rfl hc74)).trans rfl)
  refine WL.pickF (v := .bool (decide (5 < x1.Kind))) (bool_tr rfl hc74) rfl ?_
  refine WL.assign (v := .bool (decide (5 < x1.Kind))) rfl ?_
  refine WL.nil ?_
  exact Jk11 (decide (5 < x1.Kind)) _ _ rfl rfl ((hs.mask [true]).pick [2]) hf }
theorem esref14_Commutes.calls {ok : Nat → Prop} {w0 : World} {x1 : api_Update} {v2 : Value} {r : Bool} (hf : esref14_Commutes x1 = some r) (i0 : (vl t_api_Update x1 v2).holds ok w0) :
    Calls Try.prog 65 #[v2] w0 fun e w' => ∃ v, e = .returned v ∧ ∃ y : Unit, v = .bool r ∧ St ok (bz w0) w' [] [] := by
  unfold esref14_Commutes at hf
  refine calls_of_W (fn := Try.f65) (N := 18) Try.func65 rfl Try.ntmps65 rfl ?_
  have hs : St ok (bz w0) w0 [vl t_api_Update x1 v2] [] := St.init (All.cons i0 All.nil)
  clear i0
  obtain ⟨cs3, hl4, rfl⟩ := hs.aggv (n := 4) 0 rfl rfl rfl
  refine W.seqK fun K5 hK5 => ?_
  refine W.region ?_
  refine WL.box (vs := cs3) hs rfl rfl (fun g6 w hs => ?_)
  refine WL.assign (v := .bool false) rfl ?_
  refine WL.nil ?_
  refine hK5 _ _ ?_
  refine W.seqK fun K7 hK7 => ?_
  have Jk9 : ∀  (ρ : Env) (w : World), St ok (bz w0) w [] [] → esref14_Commutes.j1 = some r → K7 ρ w := by
    intro  ρ w  hs hf
    refine hK7 _ _ ?_
    unfold esref14_Commutes.j1 at hf
    refine W.seqK fun K10 hK10 => ?_
    refine W.region ?_
    refine WL.assign (v := .bool true) rfl ?_
    refine WL.nil ?_
    refine hK10 _ _ ?_
    refine W.ret ?_
    have hr := Option.some.inj hf; subst hr
    exact ⟨_, resOk_one rfl rfl, (), rfl, (hs.mask []).pick []⟩
  refine W.seqK fun K11 hK11 => ?_
  refine W.region ?_
  refine WL.assign (v := .int .i64 0) rfl ?_
  refine WL.nil ?_
  refine hK11 _ _ ?_
  refine W.block ?_
  obtain ⟨bs14, hbs14, hfs14⟩ := bindE hf
  refine W.loop hbs14 (fun s ρ w => match s with | x13 => ρ 1 = .pointer (some ⟨g6, 0, none⟩) ∧ ρ 3 = .int .i64 x13 ∧ St ok (bz w0) w [vl t_api_Update x1 (.agg cs3.toArray)] [blk g6 75 cs3]) ⟨rfl, rfl, (hs.mask [true]).pick [0]⟩ ?_
  intro x13 ρ w os14 hI hf hbbs14
  obtain ⟨h12_1, h12_3, hs⟩ := hI
  unfold esref14_Commutes.l1 at hf
  refine W.seqK fun K15 hK15 => ?_
  refine W.seqK fun K16 hK16 => ?_
  refine W.region ?_
  refine WL.move (v := .int .i64 x13) h12_3 ?_
  refine WL.fieldAddr (m := 3) h12_1 FA75_3 rfl ?_
  refine WL.loadF (z := x1.Effects) F_api_Update_Effects hs 0 rfl 0 rfl rfl TI30 (.inr rfl) rfl rfl (fun v17 hs => ?_)
  obtain ⟨a18, c19, rfl⟩ := hs.slice 0 rfl
  refine WL.len (v := .slice a18 (x1.Effects).length c19) rfl (len_slice UN30) ?_
  refine WL.bin (v := .bool (decide (x13 < ((x1.Effects).length : Int)))) rfl rfl (ib_lss _ _ _) ?_
  refine WL.nil ?_
  refine hK16 _ _ ?_
  rcases iteE hf with ⟨hc20, hf⟩ | ⟨hc20, hf⟩
  {
  refine W.cond_true (bool_tr rfl hc20) ?_
  refine W.skip ?_
  refine hK15 _ _ ?_
  refine W.seqK fun K21 hK21 => ?_
  refine W.block ?_
  refine W.seqK fun K22 hK22 => ?_
  refine W.region ?_
  refine WL.fieldAddr (m := 3) h12_1 FA75_3 rfl ?_
  refine WL.loadF (z := x1.Effects) F_api_Update_Effects hs 0 rfl 1 rfl rfl TI30 (.inr rfl) rfl rfl (fun v23 hs => ?_)
  obtain ⟨a24, c25, rfl⟩ := hs.slice 0 rfl
  refine WL.move (v := .int .i64 x13) h12_3 ?_
  obtain ⟨x26, hxx26, hf⟩ := bindE hf
  refine WL.indexAddr hs 0 rfl UN30 TI72 rfl rfl hxx26 (fun ad27 hs => ?_)
  refine WL.fieldAddrP (z := x26.Kind) F_api_Effect_Kind hs 0 rfl rfl FA72_0 rfl (fun ad28 hs => ?_)
  refine WL.loadP hs 0 rfl TI3 (.inr rfl) rfl (fun v29 hs => ?_)
  obtain rfl := hs.int 0 rfl
  refine WL.bin (v := .bool (x26.Kind == 1)) rfl rfl (ib_eql _ _ _) ?_
  refine WL.nil ?_
  refine hK22 _ _ ?_
  rcases iteE hf with ⟨hc30, hf⟩ | ⟨hc30, hf⟩
  {
  refine W.cond_true (bool_tr rfl hc30) ?_
  refine W.seqK fun K31 hK31 => ?_
  refine W.region ?_
  refine WL.assign (v := .bool false) rfl ?_
  refine WL.nil ?_
  refine hK31 _ _ ?_
  refine W.ret ?_
  have hr := Option.some.inj hf; subst hr
  have hr := hbbs14 _ rfl; subst hr
  have hf := hfs14
  have hr := Option.some.inj hf; subst hr
  exact ⟨_, resOk_one rfl rfl, (), rfl, (hs.mask []).pick []⟩ }
  {
  refine W.cond_false (bool_tr rfl hc30) ?_
  refine W.skip ?_
  refine hK21 _ _ ?_
  refine W.region ?_
  refine WL.move (v := .int .i64 x13) h12_3 ?_
  obtain ⟨x32, ex32, hf⟩ := letE hf
  refine WL.bin (v := .int .i64 x32) rfl rfl (ib_as ex32 (ib_add _ _ _)) ?_
  refine WL.assign (v := .int .i64 x32) rfl ?_
  refine WL.nil ?_
  exact ⟨_, (Option.some.inj hf).symm, h12_1, rfl, (hs.mask [true]).pick [5]⟩ } }
  {
  refine W.cond_false (bool_tr rfl hc20) ?_
  refine W.exit ?_
  have hr := Option.some.inj hf; subst hr
  have hr := hbbs14 _ rfl; subst hr
  have hf := hfs14
  exact Jk9  _ _  ((hs.mask []).pick []) hf }
theorem esref14_ValidateUpdate.calls {ok : Nat → Prop} {w0 : World} {x1 : api_Update} {v2 : Value} {r : Int} (hf : esref14_ValidateUpdate x1 = some r) (i0 : (vl t_api_Update x1 v2).holds ok w0) :
    Calls Try.prog 54 #[v2] w0 fun e w' => ∃ v, e = .returned v ∧ ∃ y : Unit, v = .int .i64 r ∧ St ok (bz w0) w' [] [] := by
  unfold esref14_ValidateUpdate at hf
  refine calls_of_W (fn := Try.f54) (N := 74) Try.func54 rfl Try.ntmps54 rfl ?_
  have hs : St ok (bz w0) w0 [vl t_api_Update x1 v2] [] := St.init (All.cons i0 All.nil)
  clear i0
  obtain ⟨cs3, hl4, rfl⟩ := hs.aggv (n := 4) 0 rfl rfl rfl
  refine W.seqK fun K5 hK5 => ?_
  refine W.region ?_
  refine WL.box (vs := cs3) hs rfl rfl (fun g6 w hs => ?_)
  refine WL.assign (v := .int .i64 0) rfl ?_
  refine WL.nil ?_
  refine hK5 _ _ ?_
  refine W.seqK fun K7 hK7 => ?_
  refine W.block ?_
  refine W.seqK fun K8 hK8 => ?_
  have Jk11 : ∀ (x10 : Bool) (ρ : Env) (w : World), ρ 1 = .pointer (some ⟨g6, 0, none⟩) → ρ 5 = .bool x10 → St ok (bz w0) w [vl t_api_Update x1 (.agg cs3.toArray)] [blk g6 75 cs3] → esref14_ValidateUpdate.j3 x1 x10 = some r → K8 ρ w := by
    intro x10 ρ w h9_1 h9_5 hs hf
    refine hK8 _ _ ?_
    unfold esref14_ValidateUpdate.j3 at hf
    rcases iteE hf with ⟨hc12, hf⟩ | ⟨hc12, hf⟩
    {
    refine W.cond_true (bool_tr h9_5 hc12) ?_
    refine W.seqK fun K13 hK13 => ?_
    refine W.region ?_
    refine WL.assign (v := .int .i64 9) rfl ?_
    refine WL.nil ?_
    refine hK13 _ _ ?_
    refine W.ret ?_
    have hr := Option.some.inj hf; subst hr
    exact ⟨_, resOk_one rfl rfl, (), rfl, (hs.mask []).pick []⟩ }
    {
    refine W.cond_false (bool_tr h9_5 hc12) ?_
    refine W.seqK fun K14 hK14 => ?_
    refine W.region ?_
    refine WL.fieldAddr (m := 3) h9_1 FA75_3 rfl ?_
    refine WL.loadF (z := x1.Effects) F_api_Update_Effects hs 0 rfl 0 rfl rfl TI30 (.inr rfl) rfl rfl (fun v15 hs => ?_)
    obtain ⟨a16, c17, rfl⟩ := hs.slice 0 rfl
    refine WL.len (v := .slice a16 (x1.Effects).length c17) rfl (len_slice UN30) ?_
    refine WL.bin (v := .bool (((x1.Effects).length : Int) == 0)) rfl rfl (ib_eql _ _ _) ?_
    refine WL.assign (v := .bool (((x1.Effects).length : Int) == 0)) rfl ?_
    refine WL.nil ?_
    refine hK14 _ _ ?_
    rcases iteE hf with ⟨hc18, hf⟩ | ⟨hc18, hf⟩
    {
    refine W.cond_true (bool_tr rfl hc18) ?_
    refine W.seqK fun K19 hK19 => ?_
    refine W.region ?_
    refine WL.assign (v := .int .i64 2) rfl ?_
    refine WL.nil ?_
    refine hK19 _ _ ?_
    refine W.ret ?_
    have hr := Option.some.inj hf; subst hr
    exact ⟨_, resOk_one rfl rfl, (), rfl, (hs.mask []).pick []⟩ }
    {
    refine W.cond_false (bool_tr rfl hc18) ?_
    refine W.seqK fun K20 hK20 => ?_
    refine W.region ?_
    refine WL.fieldAddr (m := 3) h9_1 FA75_3 rfl ?_
    refine WL.loadF (z := x1.Effects) F_api_Update_Effects hs 0 rfl 1 rfl rfl TI30 (.inr rfl) rfl rfl (fun v21 hs => ?_)
    obtain ⟨a22, c23, rfl⟩ := hs.slice 0 rfl
    refine WL.len (v := .slice a22 (x1.Effects).length c23) rfl (len_slice UN30) ?_
    refine WL.bin (v := .bool (decide (4 < ((x1.Effects).length : Int)))) rfl rfl (ib_gtr _ _ _) ?_
    refine WL.assign (v := .bool (decide (4 < ((x1.Effects).length : Int)))) rfl ?_
    refine WL.nil ?_
    refine hK20 _ _ ?_
    rcases iteE hf with ⟨hc24, hf⟩ | ⟨hc24, hf⟩
    {
    refine W.cond_true (bool_tr rfl hc24) ?_
    refine W.seqK fun K25 hK25 => ?_
    refine W.region ?_
    refine WL.assign (v := .int .i64 3) rfl ?_
    refine WL.nil ?_
    refine hK25 _ _ ?_
    refine W.ret ?_
    have hr := Option.some.inj hf; subst hr
    exact ⟨_, resOk_one rfl rfl, (), rfl, (hs.mask []).pick []⟩ }
    {
    refine W.cond_false (bool_tr rfl hc24) ?_
    refine W.skip ?_
    refine hK7 _ _ ?_
    refine W.seqK fun K26 hK26 => ?_
    have Jk28 : ∀  (ρ : Env) (w : World), ρ 1 = .pointer (some ⟨g6, 0, none⟩) → St ok (bz w0) w [vl t_api_Update x1 (.agg cs3.toArray)] [blk g6 75 cs3] → esref14_ValidateUpdate.j2 x1 = some r → K26 ρ w := by
      intro  ρ w h27_1 hs hf
      refine hK26 _ _ ?_
      unfold esref14_ValidateUpdate.j2 at hf
      refine W.seqK fun K29 hK29 => ?_
      refine W.seqK fun K30 hK30 => ?_
      have Jk33 : ∀ (x32 : Bool) (ρ : Env) (w : World), ρ 73 = .bool x32 → St ok (bz w0) w [] [] → esref14_ValidateUpdate.j1 x32 = some r → K30 ρ w := by
        intro x32 ρ w h31_73 hs hf
        refine hK30 _ _ ?_
        unfold esref14_ValidateUpdate.j1 at hf
        rcases iteE hf with ⟨hc34, hf⟩ | ⟨hc34, hf⟩
        {
        refine W.cond_true (bool_tr h31_73 hc34) ?_
        refine W.seqK fun K35 hK35 => ?_
        refine W.region ?_
        refine WL.assign (v := .int .i64 2) rfl ?_
        refine WL.nil ?_
        refine hK35 _ _ ?_
        refine W.ret ?_
        have hr := Option.some.inj hf; subst hr
        exact ⟨_, resOk_one rfl rfl, (), rfl, (hs.mask []).pick []⟩ }
        {
        refine W.cond_false (bool_tr h31_73 hc34) ?_
        refine W.skip ?_
        refine hK29 _ _ ?_
        refine W.seqK fun K36 hK36 => ?_
        refine W.region ?_
        refine WL.assign (v := .int .i64 0) rfl ?_
        refine WL.nil ?_
        refine hK36 _ _ ?_
        refine W.ret ?_
        have hr := Option.some.inj hf; subst hr
        exact ⟨_, resOk_one rfl rfl, (), rfl, (hs.mask []).pick []⟩ }
      refine W.region ?_
      refine WL.loadAll hs 0 rfl TI75 h27_1 hl4 ?_
      obtain ⟨x37, hxx37, hf⟩ := bindE hf
      refine WL.call (vs := [.agg cs3.toArray]) hs FN65 ⟨rfl, trivial⟩ (fun ok hA => esref14_Commutes.calls (x1 := x1) hxx37 (hA.get 0 rfl)) ?_
      rintro _ w hs
      refine WL.not rfl ?_
      refine WL.move (v := .bool (!x37)) rfl ?_
      rcases iteE hf with ⟨hc38, hf⟩ | ⟨hc38, hf⟩
      {
      refine WL.fieldAddr (m := 3) h27_1 FA75_3 rfl ?_ (hg := (wanted_of rfl rfl (bool_tr rfl hc38)).trans rfl)
      refine WL.loadF (z := x1.Effects) F_api_Update_Effects hs 0 rfl 0 rfl rfl TI30 (.inr rfl) rfl rfl (fun v39 hs => ?_) (hg := (wanted_of rfl rfl (bool_tr rfl hc38)).trans rfl)
      obtain ⟨a40, c41, rfl⟩ := hs.slice 0 rfl
      refine WL.len (v := .slice a40 (x1.Effects).length c41) rfl (len_slice UN30) ?_ (hg := (wanted_of rfl rfl (bool_tr rfl hc38)).trans rfl)
      refine WL.bin (v := .bool (decide (1 < ((x1.Effects).length : Int)))) rfl rfl (ib_gtr _ _ _) ?_ (hg := (wanted_of rfl rfl (bool_tr rfl hc38)).trans rfl)
      refine WL.pickT (v := .bool (decide (1 < ((x1.Effects).length : Int)))) (bool_tr rfl hc38) rfl ?_
      refine WL.move (v := .bool (decide (1 < ((x1.Effects).length : Int)))) rfl ?_
      rcases iteE hf with ⟨hc42, hf⟩ | ⟨hc42, hf⟩
      {
      refine WL.pass ((wanted_of rfl rfl (bool_tr rfl hc42)).trans rfl) rfl ?_
      refine WL.pass ((wanted_of rfl rfl (bool_tr rfl hc42)).trans rfl) rfl ?_
      refine WL.pass ((wanted_of rfl rfl (bool_tr rfl hc42)).trans rfl) rfl ?_
      refine WL.pass (wanted_undef rfl rfl rfl) rfl ?_
      refine WL.pass (wanted_undef rfl rfl rfl) rfl ?_
      refine WL.pass (wanted_undef rfl rfl rfl) rfl ?_
      refine WL.pass ((wanted_of rfl rfl (bool_tr rfl hc42)).trans rfl) rfl ?_
      refine WL.pickT (v := .bool true) (bool_tr rfl hc42) rfl ?_
      refine WL.nil ?_
      exact Jk33 true _ _ rfl ((hs.mask []).pick []) hf }
      {
      refine WL.loadAll hs 0 rfl TI75 h27_1 hl4 ?_ (hg := (wanted_of rfl rfl (bool_tr rfl hc42)).trans rfl)
      obtain ⟨x43, hxx43, hf⟩ := bindE hf
      refine WL.call (vs := [.agg cs3.toArray]) hs FN65 ⟨rfl, trivial⟩ (fun ok hA => esref14_Commutes.calls (x1 := x1) hxx43 (hA.get 1 rfl)) ?_ (hg := (wanted_of rfl rfl (bool_tr rfl hc42)).trans rfl)
      rintro _ w hs
      refine WL.move (v := .bool x43) rfl ?_ (hg := (wanted_of rfl rfl (bool_tr rfl hc42)).trans rfl)
      rcases iteE hf with ⟨hc44, hf⟩ | ⟨hc44, hf⟩
      {
      refine WL.fieldAddr (m := 2) h27_1 FA75_2 rfl ?_ (hg := (wanted_of rfl rfl (bool_tr rfl hc44)).trans rfl)
      refine WL.loadF (z := x1.Tag) F_api_Update_Tag hs 0 rfl 1 rfl rfl TI3 (.inr rfl) rfl rfl (fun v45 hs => ?_) (hg := (wanted_of rfl rfl (bool_tr rfl hc44)).trans rfl)
      obtain rfl := hs.int 0 rfl
      refine WL.bin (v := .bool (x1.Tag != 0)) rfl rfl (ib_neq _ _ _) ?_ (hg := (wanted_of rfl rfl (bool_tr rfl hc44)).trans rfl)
      refine WL.pickT (v := .bool (x1.Tag != 0)) (bool_tr rfl hc44) rfl ?_ (hg := (wanted_of rfl rfl (bool_tr rfl hc42)).trans rfl)
      refine WL.pickF (v := .bool (x1.Tag != 0)) (bool_tr rfl hc42) rfl ?_
      refine WL.nil ?_
      exact Jk33 (x1.Tag != 0) _ _ rfl ((hs.mask []).pick []) hf }
      {
      refine WL.pass ((wanted_of rfl rfl (bool_tr rfl hc44)).trans rfl) rfl ?_
      refine WL.pass ((wanted_of rfl rfl (bool_tr rfl hc44)).trans rfl) rfl ?_
      refine WL.pass ((wanted_of rfl rfl (bool_tr rfl hc44)).trans rfl) rfl ?_
      refine WL.pickF (v := .bool false) (bool_tr rfl hc44) rfl ?_ (hg := (wanted_of rfl rfl (bool_tr rfl hc42)).trans rfl)
      refine WL.pickF (v := .bool false) (bool_tr rfl hc42) rfl ?_
      refine WL.nil ?_
      exact Jk33 false _ _ rfl ((hs.mask []).pick []) hf } } }
      {
      refine WL.pass ((wanted_of rfl rfl (bool_tr rfl hc38)).trans rfl) rfl ?_
      refine WL.pass ((wanted_of rfl rfl (bool_tr rfl hc38)).trans rfl) rfl ?_
      refine WL.pass ((wanted_of rfl rfl (bool_tr rfl hc38)).trans rfl) rfl ?_
      refine WL.pass ((wanted_of rfl rfl (bool_tr rfl hc38)).trans rfl) rfl ?_
      refine WL.pickF (v := .bool false) (bool_tr rfl hc38) rfl ?_
      refine WL.move (v := .bool false) rfl ?_
      refine WL.loadAll hs 0 rfl TI75 h27_1 hl4 ?_ (hg := (wanted_of rfl rfl rfl).trans rfl)
      obtain ⟨x46, hxx46, hf⟩ := bindE hf
      refine WL.call (vs := [.agg cs3.toArray]) hs FN65 ⟨rfl, trivial⟩ (fun ok hA => esref14_Commutes.calls (x1 := x1) hxx46 (hA.get 0 rfl)) ?_ (hg := (wanted_of rfl rfl rfl).trans rfl)
      rintro _ w hs
      refine WL.move (v := .bool x46) rfl ?_ (hg := (wanted_of rfl rfl rfl).trans rfl)
      rcases iteE hf with ⟨hc47, hf⟩ | ⟨hc47, hf⟩
      {
      refine WL.fieldAddr (m := 2) h27_1 FA75_2 rfl ?_ (hg := (wanted_of rfl rfl (bool_tr rfl hc47)).trans rfl)
      refine WL.loadF (z := x1.Tag) F_api_Update_Tag hs 0 rfl 0 rfl rfl TI3 (.inr rfl) rfl rfl (fun v48 hs => ?_) (hg := (wanted_of rfl rfl (bool_tr rfl hc47)).trans rfl)
      obtain rfl := hs.int 0 rfl
      refine WL.bin (v := .bool (x1.Tag != 0)) rfl rfl (ib_neq _ _ _) ?_ (hg := (wanted_of rfl rfl (bool_tr rfl hc47)).trans rfl)
      refine WL.pickT (v := .bool (x1.Tag != 0)) (bool_tr rfl hc47) rfl ?_ (hg := (wanted_of rfl rfl rfl).trans rfl)
      refine WL.pickF (v := .bool (x1.Tag != 0)) rfl rfl ?_
      refine WL.nil ?_
      exact Jk33 (x1.Tag != 0) _ _ rfl ((hs.mask []).pick []) hf }
      {
      refine WL.pass ((wanted_of rfl rfl (bool_tr rfl hc47)).trans rfl) rfl ?_
      refine WL.pass ((wanted_of rfl rfl (bool_tr rfl hc47)).trans rfl) rfl ?_
      refine WL.pass ((wanted_of rfl rfl (bool_tr rfl hc47)).trans rfl) rfl ?_
      refine WL.pickF (v := .bool false) (bool_tr rfl hc47) rfl ?_ (hg := (wanted_of rfl rfl rfl).trans rfl)
      refine WL.pickF (v := .bool false) rfl rfl ?_
      refine WL.nil ?_
      exact Jk33 false _ _ rfl ((hs.mask []).pick []) hf } }
    refine W.seqK fun K49 hK49 => ?_
    refine W.region ?_
    refine WL.assign (v := .int .i64 0) rfl ?_
    refine WL.nil ?_
    refine hK49 _ _ ?_
    refine W.block ?_
    obtain ⟨bs52, hbs52, hfs52⟩ := bindE hf
    refine W.loop hbs52 (fun s ρ w => match s with | x51 => ρ 1 = .pointer (some ⟨g6, 0, none⟩) ∧ ρ 3 = .int .i64 x51 ∧ St ok (bz w0) w [vl t_api_Update x1 (.agg cs3.toArray)] [blk g6 75 cs3]) ⟨h9_1, rfl, (hs.mask [true]).pick [2]⟩ ?_
    intro x51 ρ w os52 hI hf hbbs52
    obtain ⟨h50_1, h50_3, hs⟩ := hI
    unfold esref14_ValidateUpdate.l1 at hf
    refine W.seqK fun K53 hK53 => ?_
    refine W.seqK fun K54 hK54 => ?_
    refine W.region ?_
    refine WL.move (v := .int .i64 x51) h50_3 ?_
    refine WL.fieldAddr (m := 3) h50_1 FA75_3 rfl ?_
    refine WL.loadF (z := x1.Effects) F_api_Update_Effects hs 0 rfl 0 rfl rfl TI30 (.inr rfl) rfl rfl (fun v55 hs => ?_)
    obtain ⟨a56, c57, rfl⟩ := hs.slice 0 rfl
    refine WL.len (v := .slice a56 (x1.Effects).length c57) rfl (len_slice UN30) ?_
    refine WL.bin (v := .bool (decide (x51 < ((x1.Effects).length : Int)))) rfl rfl (ib_lss _ _ _) ?_
    refine WL.nil ?_
    refine hK54 _ _ ?_
    rcases iteE hf with ⟨hc58, hf⟩ | ⟨hc58, hf⟩
    {
    refine W.cond_true (bool_tr rfl hc58) ?_
    refine W.skip ?_
    refine hK53 _ _ ?_
    refine W.seqK fun K59 hK59 => ?_
    refine W.block ?_
    refine W.seqK fun K60 hK60 => ?_
    refine W.region ?_
    refine WL.fieldAddr (m := 3) h50_1 FA75_3 rfl ?_
    refine WL.loadF (z := x1.Effects) F_api_Update_Effects hs 0 rfl 1 rfl rfl TI30 (.inr rfl) rfl rfl (fun v61 hs => ?_)
    obtain ⟨a62, c63, rfl⟩ := hs.slice 0 rfl
    refine WL.move (v := .int .i64 x51) h50_3 ?_
    obtain ⟨x64, hxx64, hf⟩ := bindE hf
    refine WL.indexAddr hs 0 rfl UN30 TI72 rfl rfl hxx64 (fun ad65 hs => ?_)
    refine WL.loadP hs 0 rfl TI72 (.inl rfl) rfl (fun v66 hs => ?_)
    obtain ⟨cs67, hl68, rfl⟩ := hs.aggv (n := 5) 0 rfl rfl rfl
    obtain ⟨x69, hxx69, hf⟩ := bindE hf
    refine WL.call (vs := [.agg cs67.toArray]) hs FN64 ⟨rfl, trivial⟩ (fun ok hA => esref14_ValidateEffect.calls (x1 := x64) hxx69 (hA.get 0 rfl)) ?_
    rintro _ w hs
    refine WL.assign (v := .int .i64 x69) rfl ?_
    refine WL.nil ?_
    refine hK60 _ _ ?_
    refine W.seqK fun K70 hK70 => ?_
    refine W.region ?_
    refine WL.move (v := .int .i64 x69) rfl ?_
    refine WL.bin (v := .bool (x69 != 0)) rfl rfl (ib_neq _ _ _) ?_
    refine WL.nil ?_
    refine hK70 _ _ ?_
    rcases iteE hf with ⟨hc71, hf⟩ | ⟨hc71, hf⟩
    {
    refine W.cond_true (bool_tr rfl hc71) ?_
    refine W.seqK fun K72 hK72 => ?_
    refine W.region ?_
    refine WL.move (v := .int .i64 x69) rfl ?_
    refine WL.assign (v := .int .i64 x69) rfl ?_
    refine WL.nil ?_
    refine hK72 _ _ ?_
    refine W.ret ?_
    have hr := Option.some.inj hf; subst hr
    have hr := hbbs52 _ rfl; subst hr
    have hf := hfs52
    have hr := Option.some.inj hf; subst hr
    exact ⟨_, resOk_one rfl rfl, (), rfl, (hs.mask []).pick []⟩ }
    {
    refine W.cond_false (bool_tr rfl hc71) ?_
    refine W.skip ?_
    refine hK59 _ _ ?_
    refine W.region ?_
    refine WL.move (v := .int .i64 x51) h50_3 ?_
    obtain ⟨x73, ex73, hf⟩ := letE hf
    refine WL.bin (v := .int .i64 x73) rfl rfl (ib_as ex73 (ib_add _ _ _)) ?_
    refine WL.assign (v := .int .i64 x73) rfl ?_
    refine WL.nil ?_
    exact ⟨_, (Option.some.inj hf).symm, h50_1, rfl, (hs.mask [true]).pick [4]⟩ } }
    {
    refine W.cond_false (bool_tr rfl hc58) ?_
    refine W.exit ?_
    have hr := Option.some.inj hf; subst hr
    have hr := hbbs52 _ rfl; subst hr
    have hf := hfs52
    exact Jk28  _ _ h50_1 ((hs.mask [true]).pick [1]) hf } } } }
  refine W.region ?_
  refine WL.fieldAddr (m := 0) rfl FA75_0 rfl ?_
  refine WL.loadF (z := x1.Client) F_api_Update_Client hs 0 rfl 0 rfl rfl TI3 (.inr rfl) rfl rfl (fun v75 hs => ?_)
  obtain rfl := hs.int 0 rfl
  obtain ⟨x76, hxx76, hf⟩ := bindE hf
  refine WL.call (vs := [.int .i64 x1.Client]) hs FN53 ⟨rfl, trivial⟩ (fun ok hA => esref06_Client.calls (x1 := x1.Client) hxx76) ?_
  rintro _ w hs
  refine WL.not rfl ?_
  refine WL.move (v := .bool (!x76)) rfl ?_
  rcases iteE hf with ⟨hc77, hf⟩ | ⟨hc77, hf⟩
  {
  refine WL.pass ((wanted_of rfl rfl (bool_tr rfl hc77)).trans rfl) rfl ?_
  refine WL.pass ((wanted_of rfl rfl (bool_tr rfl hc77)).trans rfl) rfl ?_
  refine WL.pass ((wanted_of rfl rfl (bool_tr rfl hc77)).trans rfl) rfl ?_
  refine WL.pickT (v := .bool true) (bool_tr rfl hc77) rfl ?_
  refine WL.move (v := .bool true) rfl ?_
  refine WL.pass ((wanted_of rfl rfl rfl).trans rfl) rfl ?_
  refine WL.pass ((wanted_of rfl rfl rfl).trans rfl) rfl ?_
  refine WL.pass ((wanted_of rfl rfl rfl).trans rfl) rfl ?_
  refine WL.pickT (v := .bool true) rfl rfl ?_
  refine WL.move (v := .bool true) rfl ?_
  refine WL.pass ((wanted_of rfl rfl rfl).trans rfl) rfl ?_
  refine WL.pass ((wanted_of rfl rfl rfl).trans rfl) rfl ?_
  refine WL.pass ((wanted_of rfl rfl rfl).trans rfl) rfl ?_
  refine WL.pickT (v := .bool true) rfl rfl ?_
  refine WL.move (v := .bool true) rfl ?_
  refine WL.pass ((wanted_of rfl rfl rfl).trans rfl) rfl ?_
  refine WL.pass ((wanted_of rfl rfl rfl).trans rfl) rfl ?_
  refine WL.pass ((wanted_of rfl rfl rfl).trans rfl) rfl ?_
  refine WL.pickT (v := .bool true) rfl rfl ?_
  refine WL.assign (v := .bool true) rfl ?_
  refine WL.nil ?_
  exact Jk11 true _ _ rfl rfl ((hs.mask [true]).pick [1]) hf }
  {
  refine WL.fieldAddr (m := 1) rfl FA75_1 rfl ?_ (hg := (wanted_of rfl rfl (bool_tr rfl hc77)).trans rfl)
  refine WL.loadF (z := x1.Seq) F_api_Update_Seq hs 0 rfl 1 rfl rfl TI3 (.inr rfl) rfl rfl (fun v78 hs => ?_) (hg := (wanted_of rfl rfl (bool_tr rfl hc77)).trans rfl)
  obtain rfl := hs.int 0 rfl
  refine WL.bin (v := .bool (decide (x1.Seq < 1))) rfl rfl (ib_lss _ _ _) ?_ (hg := (wanted_of rfl rfl (bool_tr rfl hc77)).trans rfl)
  refine WL.pickF (v := .bool (decide (x1.Seq < 1))) (bool_tr rfl hc77) rfl ?_
  refine WL.move (v := .bool (decide (x1.Seq < 1))) rfl ?_
  rcases iteE hf with ⟨hc79, hf⟩ | ⟨hc79, hf⟩
  {
  refine WL.pass ((wanted_of rfl rfl (bool_tr rfl hc79)).trans rfl) rfl ?_
  refine WL.pass ((wanted_of rfl rfl (bool_tr rfl hc79)).trans rfl) rfl ?_
  refine WL.pass ((wanted_of rfl rfl (bool_tr rfl hc79)).trans rfl) rfl ?_
  refine WL.pickT (v := .bool true) (bool_tr rfl hc79) rfl ?_
  refine WL.move (v := .bool true) rfl ?_
  refine WL.pass ((wanted_of rfl rfl rfl).trans rfl) rfl ?_
  refine WL.pass ((wanted_of rfl rfl rfl).trans rfl) rfl ?_
  refine WL.pass ((wanted_of rfl rfl rfl).trans rfl) rfl ?_
  refine WL.pickT (v := .bool true) rfl rfl ?_
  refine WL.move (v := .bool true) rfl ?_
  refine WL.pass ((wanted_of rfl rfl rfl).trans rfl) rfl ?_
  refine WL.pass ((wanted_of rfl rfl rfl).trans rfl) rfl ?_
  refine WL.pass ((wanted_of rfl rfl rfl).trans rfl) rfl ?_
  refine WL.pickT (v := .bool true) rfl rfl ?_
  refine WL.assign (v := .bool true) rfl ?_
  refine WL.nil ?_
  exact Jk11 true _ _ rfl rfl ((hs.mask [true]).pick [2]) hf }
  {
  refine WL.fieldAddr (m := 1) rfl FA75_1 rfl ?_ (hg := (wanted_of rfl rfl (bool_tr rfl hc79)).trans rfl)
  refine WL.loadF (z := x1.Seq) F_api_Update_Seq hs 0 rfl 2 rfl rfl TI3 (.inr rfl) rfl rfl (fun v80 hs => ?_) (hg := (wanted_of rfl rfl (bool_tr rfl hc79)).trans rfl)
  obtain rfl := hs.int 0 rfl
  refine WL.bin (v := .bool (decide (8 < x1.Seq))) rfl rfl (ib_gtr _ _ _) ?_ (hg := (wanted_of rfl rfl (bool_tr rfl hc79)).trans rfl)
  refine WL.pickF (v := .bool (decide (8 < x1.Seq))) (bool_tr rfl hc79) rfl ?_
  refine WL.move (v := .bool (decide (8 < x1.Seq))) rfl ?_
  rcases iteE hf with ⟨hc81, hf⟩ | ⟨hc81, hf⟩
  {
  refine WL.pass ((wanted_of rfl rfl (bool_tr rfl hc81)).trans rfl) rfl ?_
  refine WL.pass ((wanted_of rfl rfl (bool_tr rfl hc81)).trans rfl) rfl ?_
  refine WL.pass ((wanted_of rfl rfl (bool_tr rfl hc81)).trans rfl) rfl ?_
  refine WL.pickT (v := .bool true) (bool_tr rfl hc81) rfl ?_
  refine WL.move (v := .bool true) rfl ?_
  refine WL.pass ((wanted_of rfl rfl rfl).trans rfl) rfl ?_
  refine WL.pass ((wanted_of rfl rfl rfl).trans rfl) rfl ?_
  refine WL.pass ((wanted_of rfl rfl rfl).trans rfl) rfl ?_
  refine WL.pickT (v := .bool true) rfl rfl ?_
  refine WL.assign (v := .bool true) rfl ?_
  refine WL.nil ?_
  exact Jk11 true _ _ rfl rfl ((hs.mask [true]).pick [3]) hf }
  {
  refine WL.fieldAddr (m := 2) rfl FA75_2 rfl ?_ (hg := (wanted_of rfl rfl (bool_tr rfl hc81)).trans rfl)
  refine WL.loadF (z := x1.Tag) F_api_Update_Tag hs 0 rfl 3 rfl rfl TI3 (.inr rfl) rfl rfl (fun v82 hs => ?_) (hg := (wanted_of rfl rfl (bool_tr rfl hc81)).trans rfl)
  obtain rfl := hs.int 0 rfl
  refine WL.bin (v := .bool (decide (x1.Tag < 0))) rfl rfl (ib_lss _ _ _) ?_ (hg := (wanted_of rfl rfl (bool_tr rfl hc81)).trans rfl)
  refine WL.pickF (v := .bool (decide (x1.Tag < 0))) (bool_tr rfl hc81) rfl ?_
  refine WL.move (v := .bool (decide (x1.Tag < 0))) rfl ?_
  rcases iteE hf with ⟨hc83, hf⟩ | ⟨hc83, hf⟩
  {
  refine WL.pass ((wanted_of rfl rfl (bool_tr rfl hc83)).trans rfl) rfl ?_
  refine WL.pass ((wanted_of rfl rfl (bool_tr rfl hc83)).trans rfl) rfl ?_
  refine WL.pass ((wanted_of rfl rfl (bool_tr rfl hc83)).trans rfl) rfl ?_
  refine WL.pickT (v := .bool true) (bool_tr rfl hc83) rfl ?_
  refine WL.assign (v := .bool true) rfl ?_
  refine WL.nil ?_
  exact Jk11 true _ _ rfl rfl ((hs.mask [true]).pick [4]) hf }
  {
  refine WL.fieldAddr (m := 2) rfl FA75_2 rfl ?_ (hg := (wanted_of rfl rfl (bool_tr rfl hc83)).trans rfl)
  refine WL.loadF (z := x1.Tag) F_api_Update_Tag hs 0 rfl 4 rfl rfl TI3 (.inr rfl) rfl rfl (fun v84 hs => ?_) (hg := (wanted_of rfl rfl (bool_tr rfl hc83)).trans rfl)
  obtain rfl := hs.int 0 rfl
  refine WL.bin (v := .bool (decide (1000 < x1.Tag))) rfl rfl (ib_gtr _ _ _) ?_ (hg := (wanted_of rfl rfl (bool_tr rfl hc83)).trans rfl)
  refine WL.pickF (v := .bool (decide (1000 < x1.Tag))) (bool_tr rfl hc83) rfl ?_
  refine WL.assign (v := .bool (decide (1000 < x1.Tag))) rfl ?_
  refine WL.nil ?_
  exact Jk11 (decide (1000 < x1.Tag)) _ _ rfl rfl ((hs.mask [true]).pick [5]) hf } } } }
theorem esref39_content.calls {ok : Nat → Prop} {w0 : World} {x1 : history_Operation} {v2 : Value} {r : Int} (hf : esref39_content x1 = some r) (i0 : (vl t_history_Operation x1 v2).holds ok w0) :
    Calls Try.prog 38 #[v2] w0 fun e w' => ∃ v, e = .returned v ∧ ∃ y : Unit, v = .int .i64 r ∧ St ok (bz w0) w' [] [] := by
  unfold esref39_content at hf
  refine calls_of_W (fn := Try.f38) (N := 32) Try.func38 rfl Try.ntmps38 rfl ?_
  have hs : St ok (bz w0) w0 [vl t_history_Operation x1 v2] [] := St.init (All.cons i0 All.nil)
  clear i0
  obtain ⟨cs3, hl4, rfl⟩ := hs.aggv (n := 6) 0 rfl rfl rfl
  refine W.seqK fun K5 hK5 => ?_
  refine W.region ?_
  refine WL.box (vs := cs3) hs rfl rfl (fun g6 w hs => ?_)
  refine WL.assign (v := .int .i64 0) rfl ?_
  refine WL.nil ?_
  refine hK5 _ _ ?_
  refine W.seqK fun K7 hK7 => ?_
  refine W.seqK fun K8 hK8 => ?_
  refine W.region ?_
  refine WL.fieldAddr (m := 1) rfl FA35_1 rfl ?_
  refine WL.loadF (z := x1.Kind) F_history_Operation_Kind hs 0 rfl 0 rfl rfl TI3 (.inr rfl) rfl rfl (fun v9 hs => ?_)
  obtain rfl := hs.int 0 rfl
  refine WL.bin (v := .bool (x1.Kind == 1)) rfl rfl (ib_eql _ _ _) ?_
  refine WL.nil ?_
  refine hK8 _ _ ?_
  rcases iteE hf with ⟨hc10, hf⟩ | ⟨hc10, hf⟩
  {
  refine W.cond_true (bool_tr rfl hc10) ?_
  refine W.seqK fun K11 hK11 => ?_
  refine W.seqK fun K12 hK12 => ?_
  have Jk15 : ∀ (x14 : Bool) (ρ : Env) (w : World), ρ 16 = .bool x14 → St ok (bz w0) w [] [] → esref39_content.j1 x14 = some r → K12 ρ w := by
    intro x14 ρ w h13_16 hs hf
    refine hK12 _ _ ?_
    unfold esref39_content.j1 at hf
    rcases iteE hf with ⟨hc16, hf⟩ | ⟨hc16, hf⟩
    {
    refine W.cond_true (bool_tr h13_16 hc16) ?_
    refine W.seqK fun K17 hK17 => ?_
    refine W.region ?_
    refine WL.assign (v := .int .i64 2) rfl ?_
    refine WL.nil ?_
    refine hK17 _ _ ?_
    refine W.ret ?_
    have hr := Option.some.inj hf; subst hr
    exact ⟨_, resOk_one rfl rfl, (), rfl, (hs.mask []).pick []⟩ }
    {
    refine W.cond_false (bool_tr h13_16 hc16) ?_
    refine W.skip ?_
    refine hK11 _ _ ?_
    refine W.seqK fun K18 hK18 => ?_
    refine W.region ?_
    refine WL.assign (v := .int .i64 0) rfl ?_
    refine WL.nil ?_
    refine hK18 _ _ ?_
    refine W.ret ?_
    have hr := Option.some.inj hf; subst hr
    exact ⟨_, resOk_one rfl rfl, (), rfl, (hs.mask []).pick []⟩ }
  refine W.region ?_
  refine WL.fieldAddr (m := 3) rfl FA35_3 rfl ?_
  refine WL.loadF (z := x1.Result) F_history_Operation_Result hs 0 rfl 1 rfl rfl TI31 (.inr rfl) rfl rfl (fun v19 hs => ?_)
  obtain ⟨a20, c21, rfl⟩ := hs.slice 0 rfl
  refine WL.len (v := .slice a20 (x1.Result).length c21) rfl (len_slice UN31) ?_
  refine WL.bin (v := .bool (decide (0 < ((x1.Result).length : Int)))) rfl rfl (ib_gtr _ _ _) ?_
  refine WL.move (v := .bool (decide (0 < ((x1.Result).length : Int)))) rfl ?_
  rcases iteE hf with ⟨hc22, hf⟩ | ⟨hc22, hf⟩
  {
  refine WL.pass ((wanted_of rfl rfl (bool_tr rfl hc22)).trans rfl) rfl ?_
  refine WL.pass ((wanted_of rfl rfl (bool_tr rfl hc22)).trans rfl) rfl ?_
  refine WL.pass ((wanted_of rfl rfl (bool_tr rfl hc22)).trans rfl) rfl ?_
  refine WL.pass ((wanted_of rfl rfl (bool_tr rfl hc22)).trans rfl) rfl ?_
  refine WL.pass ((wanted_of rfl rfl (bool_tr rfl hc22)).trans rfl) rfl ?_
  refine WL.pickT (v := .bool true) (bool_tr rfl hc22) rfl ?_
  refine WL.nil ?_
  exact Jk15 true _ _ rfl ((hs.mask []).pick []) hf }
  {
  refine WL.fieldAddr (m := 2) rfl FA35_2 rfl ?_ (hg := (wanted_of rfl rfl (bool_tr rfl hc22)).trans rfl)
  refine WL.loadF (z := x1.Effects) F_history_Operation_Effects hs 0 rfl 2 rfl rfl TI30 (.inr rfl) rfl rfl (fun v23 hs => ?_) (hg := (wanted_of rfl rfl (bool_tr rfl hc22)).trans rfl)
  obtain ⟨a24, c25, rfl⟩ := hs.slice 0 rfl
  refine WL.build (vs := [(0, .int .i64 101), (1, .int .i64 1), (3, .slice a24 (x1.Effects).length c25)]) (cs := [.int .i64 101, .int .i64 1, .int .i64 0, .slice a24 (x1.Effects).length c25]) ⟨⟨rfl, rfl⟩, ⟨⟨rfl, rfl⟩, ⟨⟨rfl, rfl⟩, trivial⟩⟩⟩ (bld PL75 rfl) ?_ (hg := (wanted_of rfl rfl (bool_tr rfl hc22)).trans rfl)
  have hs := hs.add (it := vl t_api_Update (⟨101, 1, 0, x1.Effects⟩ : api_Update) (.agg [.int .i64 101, .int .i64 1, .int .i64 0, .slice a24 (x1.Effects).length c25].toArray)) fun ok hA => V_agg (show t_api_Update.R ok _ _ _ from ⟨[.int .i64 101], [.int .i64 1, .int .i64 0, .slice a24 (x1.Effects).length c25], rfl, rfl, ⟨[.int .i64 1], [.int .i64 0, .slice a24 (x1.Effects).length c25], rfl, rfl, ⟨[.int .i64 0], [.slice a24 (x1.Effects).length c25], rfl, rfl, (R_one (hA.get 0 rfl))⟩⟩⟩) rfl
  obtain ⟨x26, hxx26, hf⟩ := bindE hf
  refine WL.call (vs := [.agg ([.int .i64 101, .int .i64 1, .int .i64 0, .slice a24 (x1.Effects).length c25] : List Value).toArray]) hs FN54 ⟨rfl, trivial⟩ (fun ok hA => esref14_ValidateUpdate.calls (x1 := (⟨101, 1, 0, x1.Effects⟩ : api_Update)) hxx26 (hA.get 0 rfl)) ?_ (hg := (wanted_of rfl rfl (bool_tr rfl hc22)).trans rfl)
  rintro _ w hs
  refine WL.bin (v := .bool (x26 != 0)) rfl rfl (ib_neq _ _ _) ?_ (hg := (wanted_of rfl rfl (bool_tr rfl hc22)).trans rfl)
  refine WL.pickF (v := .bool (x26 != 0)) (bool_tr rfl hc22) rfl ?_
  refine WL.nil ?_
  exact Jk15 (x26 != 0) _ _ rfl ((hs.mask []).pick []) hf } }
  {
  refine W.cond_false (bool_tr rfl hc10) ?_
  refine W.skip ?_
  refine hK7 _ _ ?_
  refine W.seqK fun K27 hK27 => ?_
  refine W.seqK fun K28 hK28 => ?_
  have Jk31 : ∀ (x30 : Bool) (ρ : Env) (w : World), ρ 31 = .bool x30 → St ok (bz w0) w [] [] → esref39_content.j2 x30 = some r → K28 ρ w := by
    intro x30 ρ w h29_31 hs hf
    refine hK28 _ _ ?_
    unfold esref39_content.j2 at hf
    rcases iteE hf with ⟨hc32, hf⟩ | ⟨hc32, hf⟩
    {
    refine W.cond_true (bool_tr h29_31 hc32) ?_
    refine W.seqK fun K33 hK33 => ?_
    refine W.region ?_
    refine WL.assign (v := .int .i64 2) rfl ?_
    refine WL.nil ?_
    refine hK33 _ _ ?_
    refine W.ret ?_
    have hr := Option.some.inj hf; subst hr
    exact ⟨_, resOk_one rfl rfl, (), rfl, (hs.mask []).pick []⟩ }
    {
    refine W.cond_false (bool_tr h29_31 hc32) ?_
    refine W.skip ?_
    refine hK27 _ _ ?_
    refine W.seqK fun K34 hK34 => ?_
    refine W.region ?_
    refine WL.assign (v := .int .i64 0) rfl ?_
    refine WL.nil ?_
    refine hK34 _ _ ?_
    refine W.ret ?_
    have hr := Option.some.inj hf; subst hr
    exact ⟨_, resOk_one rfl rfl, (), rfl, (hs.mask []).pick []⟩ }
  refine W.region ?_
  refine WL.fieldAddr (m := 2) rfl FA35_2 rfl ?_
  refine WL.loadF (z := x1.Effects) F_history_Operation_Effects hs 0 rfl 1 rfl rfl TI30 (.inr rfl) rfl rfl (fun v35 hs => ?_)
  obtain ⟨a36, c37, rfl⟩ := hs.slice 0 rfl
  refine WL.len (v := .slice a36 (x1.Effects).length c37) rfl (len_slice UN30) ?_
  refine WL.bin (v := .bool (decide (0 < ((x1.Effects).length : Int)))) rfl rfl (ib_gtr _ _ _) ?_
  refine WL.move (v := .bool (decide (0 < ((x1.Effects).length : Int)))) rfl ?_
  rcases iteE hf with ⟨hc38, hf⟩ | ⟨hc38, hf⟩
  {
  refine WL.pass ((wanted_of rfl rfl (bool_tr rfl hc38)).trans rfl) rfl ?_
  refine WL.pass ((wanted_of rfl rfl (bool_tr rfl hc38)).trans rfl) rfl ?_
  refine WL.pass ((wanted_of rfl rfl (bool_tr rfl hc38)).trans rfl) rfl ?_
  refine WL.pass ((wanted_of rfl rfl (bool_tr rfl hc38)).trans rfl) rfl ?_
  refine WL.pass (wanted_undef rfl rfl rfl) rfl ?_
  refine WL.pass (wanted_undef rfl rfl rfl) rfl ?_
  refine WL.pass (wanted_undef rfl rfl rfl) rfl ?_
  refine WL.pass (wanted_undef rfl rfl rfl) rfl ?_
  refine WL.pass ((wanted_of rfl rfl (bool_tr rfl hc38)).trans rfl) rfl ?_
  refine WL.pickT (v := .bool true) (bool_tr rfl hc38) rfl ?_
  refine WL.nil ?_
  exact Jk31 true _ _ rfl ((hs.mask []).pick []) hf }
  {
  refine WL.fieldAddr (m := 5) rfl FA35_5 rfl ?_ (hg := (wanted_of rfl rfl (bool_tr rfl hc38)).trans rfl)
  refine WL.loadF (z := x1.Return) F_history_Operation_Return hs 0 rfl 2 rfl rfl TI3 (.inr rfl) rfl rfl (fun v39 hs => ?_) (hg := (wanted_of rfl rfl (bool_tr rfl hc38)).trans rfl)
  obtain rfl := hs.int 0 rfl
  refine WL.bin (v := .bool (x1.Return == 0)) rfl rfl (ib_eql _ _ _) ?_ (hg := (wanted_of rfl rfl (bool_tr rfl hc38)).trans rfl)
  refine WL.move (v := .bool (x1.Return == 0)) rfl ?_ (hg := (wanted_of rfl rfl (bool_tr rfl hc38)).trans rfl)
  rcases iteE hf with ⟨hc40, hf⟩ | ⟨hc40, hf⟩
  {
  refine WL.fieldAddr (m := 3) rfl FA35_3 rfl ?_ (hg := (wanted_of rfl rfl (bool_tr rfl hc40)).trans rfl)
  refine WL.loadF (z := x1.Result) F_history_Operation_Result hs 0 rfl 3 rfl rfl TI31 (.inr rfl) rfl rfl (fun v41 hs => ?_) (hg := (wanted_of rfl rfl (bool_tr rfl hc40)).trans rfl)
  obtain ⟨a42, c43, rfl⟩ := hs.slice 0 rfl
  refine WL.len (v := .slice a42 (x1.Result).length c43) rfl (len_slice UN31) ?_ (hg := (wanted_of rfl rfl (bool_tr rfl hc40)).trans rfl)
  refine WL.bin (v := .bool (decide (0 < ((x1.Result).length : Int)))) rfl rfl (ib_gtr _ _ _) ?_ (hg := (wanted_of rfl rfl (bool_tr rfl hc40)).trans rfl)
  refine WL.pickT (v := .bool (decide (0 < ((x1.Result).length : Int)))) (bool_tr rfl hc40) rfl ?_ (hg := (wanted_of rfl rfl (bool_tr rfl hc38)).trans rfl)
  refine WL.pickF (v := .bool (decide (0 < ((x1.Result).length : Int)))) (bool_tr rfl hc38) rfl ?_
  refine WL.nil ?_
  exact Jk31 (decide (0 < ((x1.Result).length : Int))) _ _ rfl ((hs.mask []).pick []) hf }
  {
  refine WL.pass ((wanted_of rfl rfl (bool_tr rfl hc40)).trans rfl) rfl ?_
  refine WL.pass ((wanted_of rfl rfl (bool_tr rfl hc40)).trans rfl) rfl ?_
  refine WL.pass ((wanted_of rfl rfl (bool_tr rfl hc40)).trans rfl) rfl ?_
  refine WL.pass ((wanted_of rfl rfl (bool_tr rfl hc40)).trans rfl) rfl ?_
  refine WL.pickF (v := .bool false) (bool_tr rfl hc40) rfl ?_ (hg := (wanted_of rfl rfl (bool_tr rfl hc38)).trans rfl)
  refine WL.pickF (v := .bool false) (bool_tr rfl hc38) rfl ?_
  refine WL.nil ?_
  exact Jk31 false _ _ rfl ((hs.mask []).pick []) hf } } }
end Go.Proofs.Ytbbeobiampbddaa
set_option linter.unusedVariables false
set_option linter.unusedSimpArgs false
namespace Go.Proofs.Ytbbeobiampbddaa
open Go Go.RowKit Go.Proofs.YtbbeobiampbddaaL
set_option maxRecDepth 100000
set_option maxHeartbeats 4000000
theorem esref39_Validate.calls {ok : Nat → Prop} {w0 : World} {x1 : history_History} {v2 : Value} {r : Int} (hf : esref39_Validate x1 = some r) (i0 : (vl t_history_History x1 v2).holds ok w0) :
    Calls Try.prog 12 #[v2] w0 fun e w' => ∃ v, e = .returned v ∧ ∃ y : Unit, v = .int .i64 r ∧ St ok (bz w0) w' [] [] := by
  unfold esref39_Validate at hf
  refine calls_of_W (fn := Try.f12) (N := 128) Try.func12 rfl Try.ntmps12 rfl ?_
  have hs : St ok (bz w0) w0 [vl t_history_History x1 v2] [] := St.init (All.cons i0 All.nil)
  clear i0
  obtain ⟨cs3, hl4, rfl⟩ := hs.aggv (n := 1) 0 rfl rfl rfl
  refine W.seqK fun K5 hK5 => ?_
  refine W.region ?_
  refine WL.box (vs := cs3) hs rfl rfl (fun g6 w hs => ?_)
  refine WL.assign (v := .int .i64 0) rfl ?_
  refine WL.nil ?_
  refine hK5 _ _ ?_
  refine W.seqK fun K7 hK7 => ?_
  refine W.region ?_
  refine WL.fieldAddr (m := 0) rfl FA24_0 rfl ?_
  refine WL.loadF (z := x1.Operations) F_history_History_Operations hs 0 rfl 0 rfl rfl TI22 (.inr rfl) rfl rfl (fun v8 hs => ?_)
  obtain ⟨a9, c10, rfl⟩ := hs.slice 0 rfl
  refine WL.assign (v := .slice a9 (x1.Operations).length c10) rfl ?_
  refine WL.nil ?_
  refine hK7 _ _ ?_
  refine W.seqK fun K11 hK11 => ?_
  have Jk13 : ∀  (ρ : Env) (w : World), St ok (bz w0) w [] [] → esref39_Validate.j1 = some r → K11 ρ w := by
    intro  ρ w  hs hf
    refine hK11 _ _ ?_
    unfold esref39_Validate.j1 at hf
    refine W.seqK fun K14 hK14 => ?_
    refine W.region ?_
    refine WL.assign (v := .int .i64 0) rfl ?_
    refine WL.nil ?_
    refine hK14 _ _ ?_
    refine W.ret ?_
    have hr := Option.some.inj hf; subst hr
    exact ⟨_, resOk_one rfl rfl, (), rfl, (hs.mask []).pick []⟩
  refine W.seqK fun K15 hK15 => ?_
  refine W.region ?_
  refine WL.assign (v := .int .i64 0) rfl ?_
  refine WL.nil ?_
  refine hK15 _ _ ?_
  refine W.block ?_
  obtain ⟨bs18, hbs18, hfs18⟩ := bindE hf
  refine W.loop hbs18 (fun s ρ w => match s with | x17 => ρ 3 = .slice a9 (x1.Operations).length c10 ∧ ρ 4 = .int .i64 x17 ∧ St ok (bz w0) w [vl (tSlice t_history_Operation) x1.Operations (.slice a9 (x1.Operations).length c10)] []) ⟨rfl, rfl, (hs.mask []).pick [0]⟩ ?_
  intro x17 ρ w os18 hI hf hbbs18
  obtain ⟨h16_3, h16_4, hs⟩ := hI
  unfold esref39_Validate.l3 at hf
  refine W.seqK fun K19 hK19 => ?_
  refine W.seqK fun K20 hK20 => ?_
  refine W.region ?_
  refine WL.move (v := .int .i64 x17) h16_4 ?_
  refine WL.move (v := .slice a9 (x1.Operations).length c10) h16_3 ?_
  refine WL.len (v := .slice a9 (x1.Operations).length c10) rfl (len_slice UN22) ?_
  refine WL.bin (v := .bool (decide (x17 < ((x1.Operations).length : Int)))) rfl rfl (ib_lss _ _ _) ?_
  refine WL.nil ?_
  refine hK20 _ _ ?_
  rcases iteE hf with ⟨hc21, hf⟩ | ⟨hc21, hf⟩
  {
  refine W.cond_true (bool_tr rfl hc21) ?_
  refine W.skip ?_
  refine hK19 _ _ ?_
  refine W.seqK fun K22 hK22 => ?_
  have Jk24 : ∀  (ρ : Env) (w : World), ρ 3 = .slice a9 (x1.Operations).length c10 → ρ 4 = .int .i64 x17 → St ok (bz w0) w [vl (tSlice t_history_Operation) x1.Operations (.slice a9 (x1.Operations).length c10)] [] → esref39_Validate.j2 x17 = some os18 → K22 ρ w := by
    intro  ρ w h23_3 h23_4 hs hf
    refine hK22 _ _ ?_
    unfold esref39_Validate.j2 at hf
    refine W.region ?_
    refine WL.move (v := .int .i64 x17) h23_4 ?_
    obtain ⟨x25, ex25, hf⟩ := letE hf
    refine WL.bin (v := .int .i64 x25) rfl rfl (ib_as ex25 (ib_add _ _ _)) ?_
    refine WL.assign (v := .int .i64 x25) rfl ?_
    refine WL.nil ?_
    exact ⟨_, (Option.some.inj hf).symm, h23_3, rfl, (hs.mask []).pick [0]⟩
  refine W.block ?_
  refine W.seqK fun K26 hK26 => ?_
  refine W.seqK fun K27 hK27 => ?_
  refine W.region ?_
  refine WL.move (v := .slice a9 (x1.Operations).length c10) h16_3 ?_
  refine WL.move (v := .int .i64 x17) h16_4 ?_
  obtain ⟨x28, hxx28, hf⟩ := bindE hf
  refine WL.indexAddr hs 0 rfl UN22 TI35 rfl rfl hxx28 (fun ad29 hs => ?_)
  refine WL.loadP hs 0 rfl TI35 (.inl rfl) rfl (fun v30 hs => ?_)
  obtain ⟨cs31, hl32, rfl⟩ := hs.aggv (n := 6) 0 rfl rfl rfl
  obtain ⟨x33, hxx33, hf⟩ := bindE hf
  refine WL.call (vs := [.agg cs31.toArray]) hs FN37 ⟨rfl, trivial⟩ (fun ok hA => esref39_validOperation.calls (x1 := x28) hxx33 (hA.get 0 rfl)) ?_
  rintro _ w hs
  refine WL.assign (v := .int .i64 x33) rfl ?_
  refine WL.nil ?_
  refine hK27 _ _ ?_
  refine W.seqK fun K34 hK34 => ?_
  refine W.region ?_
  refine WL.move (v := .int .i64 x33) rfl ?_
  refine WL.bin (v := .bool (x33 != 0)) rfl rfl (ib_neq _ _ _) ?_
  refine WL.nil ?_
  refine hK34 _ _ ?_
  rcases iteE hf with ⟨hc35, hf⟩ | ⟨hc35, hf⟩
  {
  refine W.cond_true (bool_tr rfl hc35) ?_
  refine W.seqK fun K36 hK36 => ?_
  refine W.region ?_
  refine WL.move (v := .int .i64 x33) rfl ?_
  refine WL.assign (v := .int .i64 x33) rfl ?_
  refine WL.nil ?_
  refine hK36 _ _ ?_
  refine W.ret ?_
  have hr := Option.some.inj hf; subst hr
  have hr := hbbs18 _ rfl; subst hr
  have hf := hfs18
  have hr := Option.some.inj hf; subst hr
  exact ⟨_, resOk_one rfl rfl, (), rfl, (hs.mask []).pick []⟩ }
  {
  refine W.cond_false (bool_tr rfl hc35) ?_
  refine W.skip ?_
  refine hK26 _ _ ?_
  refine W.seqK fun K37 hK37 => ?_
  refine W.seqK fun K38 hK38 => ?_
  have Jk41 : ∀ (x40 : Bool) (ρ : Env) (w : World), ρ 3 = .slice a9 (x1.Operations).length c10 → ρ 4 = .int .i64 x17 → ρ 40 = .bool x40 → St ok (bz w0) w [vl (tSlice t_history_Operation) x1.Operations (.slice a9 (x1.Operations).length c10)] [] → esref39_Validate.j6 x1 x17 x40 = some os18 → K38 ρ w := by
    intro x40 ρ w h39_3 h39_4 h39_40 hs hf
    refine hK38 _ _ ?_
    unfold esref39_Validate.j6 at hf
    rcases iteE hf with ⟨hc42, hf⟩ | ⟨hc42, hf⟩
    {
    refine W.cond_true (bool_tr h39_40 hc42) ?_
    refine W.seqK fun K43 hK43 => ?_
    refine W.region ?_
    refine WL.assign (v := .int .i64 7) rfl ?_
    refine WL.nil ?_
    refine hK43 _ _ ?_
    refine W.ret ?_
    have hr := Option.some.inj hf; subst hr
    have hr := hbbs18 _ rfl; subst hr
    have hf := hfs18
    have hr := Option.some.inj hf; subst hr
    exact ⟨_, resOk_one rfl rfl, (), rfl, (hs.mask []).pick []⟩ }
    {
    refine W.cond_false (bool_tr h39_40 hc42) ?_
    refine W.skip ?_
    refine hK37 _ _ ?_
    refine W.seqK fun K44 hK44 => ?_
    refine W.seqK fun K45 hK45 => ?_
    refine W.region ?_
    refine WL.move (v := .slice a9 (x1.Operations).length c10) h39_3 ?_
    refine WL.move (v := .int .i64 x17) h39_4 ?_
    obtain ⟨x46, hxx46, hf⟩ := bindE hf
    refine WL.indexAddr hs 0 rfl UN22 TI35 rfl rfl hxx46 (fun ad47 hs => ?_)
    refine WL.loadP hs 0 rfl TI35 (.inl rfl) rfl (fun v48 hs => ?_)
    obtain ⟨cs49, hl50, rfl⟩ := hs.aggv (n := 6) 0 rfl rfl rfl
    obtain ⟨x51, hxx51, hf⟩ := bindE hf
    refine WL.call (vs := [.agg cs49.toArray]) hs FN38 ⟨rfl, trivial⟩ (fun ok hA => esref39_content.calls (x1 := x46) hxx51 (hA.get 0 rfl)) ?_
    rintro _ w hs
    refine WL.assign (v := .int .i64 x51) rfl ?_
    refine WL.nil ?_
    refine hK45 _ _ ?_
    refine W.seqK fun K52 hK52 => ?_
    refine W.region ?_
    refine WL.move (v := .int .i64 x51) rfl ?_
    refine WL.bin (v := .bool (x51 != 0)) rfl rfl (ib_neq _ _ _) ?_
    refine WL.nil ?_
    refine hK52 _ _ ?_
    rcases iteE hf with ⟨hc53, hf⟩ | ⟨hc53, hf⟩
    {
    refine W.cond_true (bool_tr rfl hc53) ?_
    refine W.seqK fun K54 hK54 => ?_
    refine W.region ?_
    refine WL.move (v := .int .i64 x51) rfl ?_
    refine WL.assign (v := .int .i64 x51) rfl ?_
    refine WL.nil ?_
    refine hK54 _ _ ?_
    refine W.ret ?_
    have hr := Option.some.inj hf; subst hr
    have hr := hbbs18 _ rfl; subst hr
    have hf := hfs18
    have hr := Option.some.inj hf; subst hr
    exact ⟨_, resOk_one rfl rfl, (), rfl, (hs.mask []).pick []⟩ }
    {
    refine W.cond_false (bool_tr rfl hc53) ?_
    refine W.skip ?_
    refine hK44 _ _ ?_
    refine W.seqK fun K55 hK55 => ?_
    have Jk57 : ∀  (ρ : Env) (w : World), ρ 3 = .slice a9 (x1.Operations).length c10 → ρ 4 = .int .i64 x17 → St ok (bz w0) w [vl (tSlice t_history_Operation) x1.Operations (.slice a9 (x1.Operations).length c10)] [] → esref39_Validate.j4 x1 x17 = some os18 → K55 ρ w := by
      intro  ρ w h56_3 h56_4 hs hf
      refine hK55 _ _ ?_
      unfold esref39_Validate.j4 at hf
      refine W.seqK fun K58 hK58 => ?_
      refine W.region ?_
      refine WL.assign (v := .int .i64 0) rfl ?_
      refine WL.nil ?_
      refine hK58 _ _ ?_
      refine W.block ?_
      obtain ⟨bs61, hbs61, hfs61⟩ := bindE hf
      refine W.loop hbs61 (fun s ρ w => match s with | x60 => ρ 3 = .slice a9 (x1.Operations).length c10 ∧ ρ 4 = .int .i64 x17 ∧ ρ 8 = .int .i64 x60 ∧ St ok (bz w0) w [vl (tSlice t_history_Operation) x1.Operations (.slice a9 (x1.Operations).length c10)] []) ⟨h56_3, h56_4, rfl, (hs.mask []).pick [0]⟩ ?_
      intro x60 ρ w os61 hI hf hbbs61
      obtain ⟨h59_3, h59_4, h59_8, hs⟩ := hI
      unfold esref39_Validate.l1 at hf
      refine W.seqK fun K62 hK62 => ?_
      refine W.seqK fun K63 hK63 => ?_
      refine W.region ?_
      refine WL.move (v := .int .i64 x60) h59_8 ?_
      refine WL.move (v := .int .i64 x17) h59_4 ?_
      refine WL.bin (v := .bool (decide (x60 < x17))) rfl rfl (ib_lss _ _ _) ?_
      refine WL.nil ?_
      refine hK63 _ _ ?_
      rcases iteE hf with ⟨hc64, hf⟩ | ⟨hc64, hf⟩
      {
      refine W.cond_true (bool_tr rfl hc64) ?_
      refine W.skip ?_
      refine hK62 _ _ ?_
      refine W.seqK fun K65 hK65 => ?_
      refine W.block ?_
      refine W.seqK fun K66 hK66 => ?_
      have Jk69 : ∀ (x68 : Bool) (ρ : Env) (w : World), ρ 3 = .slice a9 (x1.Operations).length c10 → ρ 4 = .int .i64 x17 → ρ 8 = .int .i64 x60 → ρ 127 = .bool x68 → St ok (bz w0) w [vl (tSlice t_history_Operation) x1.Operations (.slice a9 (x1.Operations).length c10)] [] → esref39_Validate.j3 x60 x68 = some os61 → K66 ρ w := by
        intro x68 ρ w h67_3 h67_4 h67_8 h67_127 hs hf
        refine hK66 _ _ ?_
        unfold esref39_Validate.j3 at hf
        rcases iteE hf with ⟨hc70, hf⟩ | ⟨hc70, hf⟩
        {
        refine W.cond_true (bool_tr h67_127 hc70) ?_
        refine W.seqK fun K71 hK71 => ?_
        refine W.region ?_
        refine WL.assign (v := .int .i64 17) rfl ?_
        refine WL.nil ?_
        refine hK71 _ _ ?_
        refine W.ret ?_
        have hr := Option.some.inj hf; subst hr
        have hr := hbbs61 _ rfl; subst hr
        have hf := hfs61
        have hr := Option.some.inj hf; subst hr
        have hr := hbbs18 _ rfl; subst hr
        have hf := hfs18
        have hr := Option.some.inj hf; subst hr
        exact ⟨_, resOk_one rfl rfl, (), rfl, (hs.mask []).pick []⟩ }
        {
        refine W.cond_false (bool_tr h67_127 hc70) ?_
        refine W.skip ?_
        refine hK65 _ _ ?_
        refine W.region ?_
        refine WL.move (v := .int .i64 x60) h67_8 ?_
        obtain ⟨x72, ex72, hf⟩ := letE hf
        refine WL.bin (v := .int .i64 x72) rfl rfl (ib_as ex72 (ib_add _ _ _)) ?_
        refine WL.assign (v := .int .i64 x72) rfl ?_
        refine WL.nil ?_
        exact ⟨_, (Option.some.inj hf).symm, h67_3, h67_4, rfl, (hs.mask []).pick [0]⟩ }
      obtain ⟨x73, hxx73, hf⟩ := bindE hf
      obtain ⟨x77, hxx77, hf⟩ := bindE hf
      rcases iteE hf with ⟨hc81, hf⟩ | ⟨hc81, hf⟩
      {
      obtain ⟨x82, hxx82, hf⟩ := bindE hf
      obtain ⟨x86, hxx86, hf⟩ := bindE hf
      refine W.any (by kernel_rfl) 24 0 [true, true, true, true, true, true, true, true, true, true, true, true, true, true, true, true, true, true, true, true, true, true, true, true] rfl rfl (poAt [pv (.slice a9 (x1.Operations).length c10), pv (.int .i64 x60), pq (fun y : Addr => .pointer (some y)) (fun v => [pl t_history_Operation x73 (adOf v)]) (fun v => []), pq (fun y : Addr => .pointer (some y)) (fun v => [pl (tInt .i64) x73.Process (adOf v)]) (fun v => []), pv (.int .i64 x73.Process), pv (.slice a9 (x1.Operations).length c10), pv (.int .i64 x17), pq (fun y : Addr => .pointer (some y)) (fun v => [pl t_history_Operation x77 (adOf v)]) (fun v => []), pq (fun y : Addr => .pointer (some y)) (fun v => [pl (tInt .i64) x77.Process (adOf v)]) (fun v => []), pv (.int .i64 x77.Process), pv (.bool (x73.Process == x77.Process)), pv (.bool (x73.Process == x77.Process)), pv (.slice a9 (x1.Operations).length c10), pv (.int .i64 x60), pq (fun y : Addr => .pointer (some y)) (fun v => [pl t_history_Operation x82 (adOf v)]) (fun v => []), pq (fun y : Addr => .pointer (some y)) (fun v => [pl (tInt .i64) x82.Return (adOf v)]) (fun v => []), pv (.int .i64 x82.Return), pv (.slice a9 (x1.Operations).length c10), pv (.int .i64 x17), pq (fun y : Addr => .pointer (some y)) (fun v => [pl t_history_Operation x86 (adOf v)]) (fun v => []), pq (fun y : Addr => .pointer (some y)) (fun v => [pl (tInt .i64) x86.Call (adOf v)]) (fun v => []), pv (.int .i64 x86.Call), pv (.bool (decide (x86.Call < x82.Return))), pv (.bool (decide (x86.Call < x82.Return)))]) (Λ := []) hs (by kernel_rfl) (by kernel_rfl) (by kernel_rfl) ⟨⟨⟨⟨⟨⟨⟨⟨⟨⟨⟨⟨⟨⟨⟨⟨⟨⟨⟨⟨⟨⟨⟨⟨trivial, ?_⟩, ?_⟩, ?_⟩, ?_⟩, ?_⟩, ?_⟩, ?_⟩, ?_⟩, ?_⟩, ?_⟩, ?_⟩, ?_⟩, ?_⟩, ?_⟩, ?_⟩, ?_⟩, ?_⟩, ?_⟩, ?_⟩, ?_⟩, ?_⟩, ?_⟩, ?_⟩, ?_⟩ ?_
      {
      intro ρ w Γx Λx hs hu hp
      refine WL.move (v := .slice a9 (x1.Operations).length c10) ((hu 3 rfl).trans h59_3) ?_
      exact WL.nil ⟨rfl, _, rfl, rfl, hs.cutG 0 0⟩ }
      {
      intro ρ w Γx Λx hs hu hp
      refine WL.move (v := .int .i64 x60) ((hu 8 rfl).trans h59_8) ?_
      exact WL.nil ⟨rfl, _, rfl, rfl, hs.cutG 0 0⟩ }
      {
      intro ρ w Γx Λx hs hu hp
      have e90 : ρ 104 = .slice a9 (x1.Operations).length c10 := (hp 0 rfl).1
      have e91 : ρ 105 = .int .i64 x60 := (hp 1 rfl).1
      refine WL.indexAddr hs (Γx.length + 0) (getApp rfl) UN22 TI35 e90 e91 hxx73 (fun ad74 hs => ?_)
      have hs := hs.add (it := pl t_history_Operation x73 ad74) fun ok hA => hA.get 0 rfl
      exact WL.nil ⟨rfl, _, rfl, ⟨ad74, rfl⟩, hs.cutG 1 1⟩ }
      {
      intro ρ w Γx Λx hs hu hp
      obtain ⟨⟨ad92, e93r⟩, hm94⟩ := hp 2 rfl
      have e93 : ρ 106 = .pointer (some ad92) := e93r
      rw [e93r] at hm94
      have hs := hs.memo1 (it := pl t_history_Operation x73 ad92) (List.mem_append.2 (.inl (hm94 _ (List.mem_of_getElem? (i := 0) rfl))))
      refine WL.fieldAddrP (z := x73.Process) F_history_Operation_Process hs 0 rfl e93 FA35_0 rfl (fun ad75 hs => ?_)
      have hs := hs.add (it := pl (tInt .i64) x73.Process ad75) fun ok hA => hA.get 0 rfl
      exact WL.nil ⟨rfl, _, rfl, ⟨ad75, rfl⟩, hs.cutG 1 2⟩ }
      {
      intro ρ w Γx Λx hs hu hp
      obtain ⟨⟨ad95, e96r⟩, hm97⟩ := hp 3 rfl
      have e96 : ρ 107 = .pointer (some ad95) := e96r
      rw [e96r] at hm97
      have hs := hs.memo1 (it := pl (tInt .i64) x73.Process ad95) (List.mem_append.2 (.inl (hm97 _ (List.mem_of_getElem? (i := 0) rfl))))
      refine WL.loadP hs 0 rfl TI3 (.inr rfl) e96 (fun v76 hs => ?_)
      obtain rfl := hs.int 0 rfl
      exact WL.nil ⟨rfl, _, rfl, rfl, hs.cutG 0 2⟩ }
      {
      intro ρ w Γx Λx hs hu hp
      refine WL.move (v := .slice a9 (x1.Operations).length c10) ((hu 3 rfl).trans h59_3) ?_
      exact WL.nil ⟨rfl, _, rfl, rfl, hs.cutG 0 0⟩ }
      {
      intro ρ w Γx Λx hs hu hp
      refine WL.move (v := .int .i64 x17) ((hu 4 rfl).trans h59_4) ?_
      exact WL.nil ⟨rfl, _, rfl, rfl, hs.cutG 0 0⟩ }
      {
      intro ρ w Γx Λx hs hu hp
      have e98 : ρ 109 = .slice a9 (x1.Operations).length c10 := (hp 5 rfl).1
      have e99 : ρ 110 = .int .i64 x17 := (hp 6 rfl).1
      refine WL.indexAddr hs (Γx.length + 0) (getApp rfl) UN22 TI35 e98 e99 hxx77 (fun ad78 hs => ?_)
      have hs := hs.add (it := pl t_history_Operation x77 ad78) fun ok hA => hA.get 0 rfl
      exact WL.nil ⟨rfl, _, rfl, ⟨ad78, rfl⟩, hs.cutG 1 1⟩ }
      {
      intro ρ w Γx Λx hs hu hp
      obtain ⟨⟨ad100, e101r⟩, hm102⟩ := hp 7 rfl
      have e101 : ρ 111 = .pointer (some ad100) := e101r
      rw [e101r] at hm102
      have hs := hs.memo1 (it := pl t_history_Operation x77 ad100) (List.mem_append.2 (.inl (hm102 _ (List.mem_of_getElem? (i := 0) rfl))))
      refine WL.fieldAddrP (z := x77.Process) F_history_Operation_Process hs 0 rfl e101 FA35_0 rfl (fun ad79 hs => ?_)
      have hs := hs.add (it := pl (tInt .i64) x77.Process ad79) fun ok hA => hA.get 0 rfl
      exact WL.nil ⟨rfl, _, rfl, ⟨ad79, rfl⟩, hs.cutG 1 2⟩ }
      {
      intro ρ w Γx Λx hs hu hp
      obtain ⟨⟨ad103, e104r⟩, hm105⟩ := hp 8 rfl
      have e104 : ρ 112 = .pointer (some ad103) := e104r
      rw [e104r] at hm105
      have hs := hs.memo1 (it := pl (tInt .i64) x77.Process ad103) (List.mem_append.2 (.inl (hm105 _ (List.mem_of_getElem? (i := 0) rfl))))
      refine WL.loadP hs 0 rfl TI3 (.inr rfl) e104 (fun v80 hs => ?_)
      obtain rfl := hs.int 0 rfl
      exact WL.nil ⟨rfl, _, rfl, rfl, hs.cutG 0 2⟩ }
      {
      intro ρ w Γx Λx hs hu hp
      have e106 : ρ 108 = .int .i64 x73.Process := (hp 4 rfl).1
      have e107 : ρ 113 = .int .i64 x77.Process := (hp 9 rfl).1
      refine WL.bin (v := .bool (x73.Process == x77.Process)) e106 e107 (ib_eql _ _ _) ?_
      exact WL.nil ⟨rfl, _, rfl, rfl, hs.cutG 0 0⟩ }
      {
      intro ρ w Γx Λx hs hu hp
      have e108 : ρ 114 = .bool (x73.Process == x77.Process) := (hp 10 rfl).1
      refine WL.move (v := .bool (x73.Process == x77.Process)) e108 ?_
      exact WL.nil ⟨rfl, _, rfl, rfl, hs.cutG 0 0⟩ }
      {
      intro ρ w Γx Λx hs hu hp
      have e109 : ρ 115 = .bool (x73.Process == x77.Process) := (hp 11 rfl).1
      refine WL.move (v := .slice a9 (x1.Operations).length c10) ((hu 3 rfl).trans h59_3) ?_ (hg := (wanted_of rfl rfl (bool_tr e109 hc81)).trans rfl)
      exact WL.nil ⟨rfl, _, rfl, rfl, hs.cutG 0 0⟩ }
      {
      intro ρ w Γx Λx hs hu hp
      have e110 : ρ 115 = .bool (x73.Process == x77.Process) := (hp 11 rfl).1
      refine WL.move (v := .int .i64 x60) ((hu 8 rfl).trans h59_8) ?_ (hg := (wanted_of rfl rfl (bool_tr e110 hc81)).trans rfl)
      exact WL.nil ⟨rfl, _, rfl, rfl, hs.cutG 0 0⟩ }
      {
      intro ρ w Γx Λx hs hu hp
      have e111 : ρ 116 = .slice a9 (x1.Operations).length c10 := (hp 12 rfl).1
      have e112 : ρ 117 = .int .i64 x60 := (hp 13 rfl).1
      have e113 : ρ 115 = .bool (x73.Process == x77.Process) := (hp 11 rfl).1
      refine WL.indexAddr hs (Γx.length + 0) (getApp rfl) UN22 TI35 e111 e112 hxx82 (fun ad83 hs => ?_) (hg := (wanted_of rfl rfl (bool_tr e113 hc81)).trans rfl)
      have hs := hs.add (it := pl t_history_Operation x82 ad83) fun ok hA => hA.get 0 rfl
      exact WL.nil ⟨rfl, _, rfl, ⟨ad83, rfl⟩, hs.cutG 1 1⟩ }
      {
      intro ρ w Γx Λx hs hu hp
      obtain ⟨⟨ad114, e115r⟩, hm116⟩ := hp 14 rfl
      have e115 : ρ 118 = .pointer (some ad114) := e115r
      rw [e115r] at hm116
      have hs := hs.memo1 (it := pl t_history_Operation x82 ad114) (List.mem_append.2 (.inl (hm116 _ (List.mem_of_getElem? (i := 0) rfl))))
      have e117 : ρ 115 = .bool (x73.Process == x77.Process) := (hp 11 rfl).1
      refine WL.fieldAddrP (z := x82.Return) F_history_Operation_Return hs 0 rfl e115 FA35_5 rfl (fun ad84 hs => ?_) (hg := (wanted_of rfl rfl (bool_tr e117 hc81)).trans rfl)
      have hs := hs.add (it := pl (tInt .i64) x82.Return ad84) fun ok hA => hA.get 0 rfl
      exact WL.nil ⟨rfl, _, rfl, ⟨ad84, rfl⟩, hs.cutG 1 2⟩ }
      {
      intro ρ w Γx Λx hs hu hp
      obtain ⟨⟨ad118, e119r⟩, hm120⟩ := hp 15 rfl
      have e119 : ρ 119 = .pointer (some ad118) := e119r
      rw [e119r] at hm120
      have hs := hs.memo1 (it := pl (tInt .i64) x82.Return ad118) (List.mem_append.2 (.inl (hm120 _ (List.mem_of_getElem? (i := 0) rfl))))
      have e121 : ρ 115 = .bool (x73.Process == x77.Process) := (hp 11 rfl).1
      refine WL.loadP hs 0 rfl TI3 (.inr rfl) e119 (fun v85 hs => ?_) (hg := (wanted_of rfl rfl (bool_tr e121 hc81)).trans rfl)
      obtain rfl := hs.int 0 rfl
      exact WL.nil ⟨rfl, _, rfl, rfl, hs.cutG 0 2⟩ }
      {
      intro ρ w Γx Λx hs hu hp
      have e122 : ρ 115 = .bool (x73.Process == x77.Process) := (hp 11 rfl).1
      refine WL.move (v := .slice a9 (x1.Operations).length c10) ((hu 3 rfl).trans h59_3) ?_ (hg := (wanted_of rfl rfl (bool_tr e122 hc81)).trans rfl)
      exact WL.nil ⟨rfl, _, rfl, rfl, hs.cutG 0 0⟩ }
      {
      intro ρ w Γx Λx hs hu hp
      have e123 : ρ 115 = .bool (x73.Process == x77.Process) := (hp 11 rfl).1
      refine WL.move (v := .int .i64 x17) ((hu 4 rfl).trans h59_4) ?_ (hg := (wanted_of rfl rfl (bool_tr e123 hc81)).trans rfl)
      exact WL.nil ⟨rfl, _, rfl, rfl, hs.cutG 0 0⟩ }
      {
      intro ρ w Γx Λx hs hu hp
      have e124 : ρ 121 = .slice a9 (x1.Operations).length c10 := (hp 17 rfl).1
      have e125 : ρ 122 = .int .i64 x17 := (hp 18 rfl).1
      have e126 : ρ 115 = .bool (x73.Process == x77.Process) := (hp 11 rfl).1
      refine WL.indexAddr hs (Γx.length + 0) (getApp rfl) UN22 TI35 e124 e125 hxx86 (fun ad87 hs => ?_) (hg := (wanted_of rfl rfl (bool_tr e126 hc81)).trans rfl)
      have hs := hs.add (it := pl t_history_Operation x86 ad87) fun ok hA => hA.get 0 rfl
      exact WL.nil ⟨rfl, _, rfl, ⟨ad87, rfl⟩, hs.cutG 1 1⟩ }
      {
      intro ρ w Γx Λx hs hu hp
      obtain ⟨⟨ad127, e128r⟩, hm129⟩ := hp 19 rfl
      have e128 : ρ 123 = .pointer (some ad127) := e128r
      rw [e128r] at hm129
      have hs := hs.memo1 (it := pl t_history_Operation x86 ad127) (List.mem_append.2 (.inl (hm129 _ (List.mem_of_getElem? (i := 0) rfl))))
      have e130 : ρ 115 = .bool (x73.Process == x77.Process) := (hp 11 rfl).1
      refine WL.fieldAddrP (z := x86.Call) F_history_Operation_Call hs 0 rfl e128 FA35_4 rfl (fun ad88 hs => ?_) (hg := (wanted_of rfl rfl (bool_tr e130 hc81)).trans rfl)
      have hs := hs.add (it := pl (tInt .i64) x86.Call ad88) fun ok hA => hA.get 0 rfl
      exact WL.nil ⟨rfl, _, rfl, ⟨ad88, rfl⟩, hs.cutG 1 2⟩ }
      {
      intro ρ w Γx Λx hs hu hp
      obtain ⟨⟨ad131, e132r⟩, hm133⟩ := hp 20 rfl
      have e132 : ρ 124 = .pointer (some ad131) := e132r
      rw [e132r] at hm133
      have hs := hs.memo1 (it := pl (tInt .i64) x86.Call ad131) (List.mem_append.2 (.inl (hm133 _ (List.mem_of_getElem? (i := 0) rfl))))
      have e134 : ρ 115 = .bool (x73.Process == x77.Process) := (hp 11 rfl).1
      refine WL.loadP hs 0 rfl TI3 (.inr rfl) e132 (fun v89 hs => ?_) (hg := (wanted_of rfl rfl (bool_tr e134 hc81)).trans rfl)
      obtain rfl := hs.int 0 rfl
      exact WL.nil ⟨rfl, _, rfl, rfl, hs.cutG 0 2⟩ }
      {
      intro ρ w Γx Λx hs hu hp
      have e135 : ρ 120 = .int .i64 x82.Return := (hp 16 rfl).1
      have e136 : ρ 125 = .int .i64 x86.Call := (hp 21 rfl).1
      have e137 : ρ 115 = .bool (x73.Process == x77.Process) := (hp 11 rfl).1
      refine WL.bin (v := .bool (decide (x86.Call < x82.Return))) e135 e136 (ib_gtr _ _ _) ?_ (hg := (wanted_of rfl rfl (bool_tr e137 hc81)).trans rfl)
      exact WL.nil ⟨rfl, _, rfl, rfl, hs.cutG 0 0⟩ }
      {
      intro ρ w Γx Λx hs hu hp
      have e138 : ρ 115 = .bool (x73.Process == x77.Process) := (hp 11 rfl).1
      have e139 : ρ 126 = .bool (decide (x86.Call < x82.Return)) := (hp 22 rfl).1
      refine WL.pickT (v := .bool (decide (x86.Call < x82.Return))) (bool_tr e138 hc81) e139 ?_
      exact WL.nil ⟨rfl, _, rfl, rfl, hs.cutG 0 0⟩ }
      {
      intro ρ w hs hu140 hp
      obtain ⟨⟨⟨⟨⟨⟨⟨⟨⟨⟨⟨⟨⟨⟨⟨⟨⟨⟨⟨⟨⟨⟨⟨⟨_, hp0_⟩, hp1_⟩, hp2_⟩, hp3_⟩, hp4_⟩, hp5_⟩, hp6_⟩, hp7_⟩, hp8_⟩, hp9_⟩, hp10_⟩, hp11_⟩, hp12_⟩, hp13_⟩, hp14_⟩, hp15_⟩, hp16_⟩, hp17_⟩, hp18_⟩, hp19_⟩, hp20_⟩, hp21_⟩, hp22_⟩, hp23_⟩ := hp
      have hs : St ok (bz w0) w [pl (tInt .i64) x86.Call (adOf (ρ 124)), pl t_history_Operation x86 (adOf (ρ 123)), pl (tInt .i64) x82.Return (adOf (ρ 119)), pl t_history_Operation x82 (adOf (ρ 118)), pl (tInt .i64) x77.Process (adOf (ρ 112)), pl t_history_Operation x77 (adOf (ρ 111)), pl (tInt .i64) x73.Process (adOf (ρ 107)), pl t_history_Operation x73 (adOf (ρ 106)), vl (tSlice t_history_Operation) x1.Operations (.slice a9 (x1.Operations).length c10)] [] := hs
      have e141 : ρ 127 = .bool (decide (x86.Call < x82.Return)) := hp23_
      have e142 : ρ 126 = .bool (decide (x86.Call < x82.Return)) := hp22_
      have e143 : ρ 125 = .int .i64 x86.Call := hp21_
      obtain ⟨ad144, e145⟩ := hp20_
      have e145 : ρ 124 = .pointer (some ad144) := e145
      try rw [e145] at hs
      obtain ⟨ad146, e147⟩ := hp19_
      have e147 : ρ 123 = .pointer (some ad146) := e147
      try rw [e147] at hs
      have e148 : ρ 122 = .int .i64 x17 := hp18_
      have e149 : ρ 121 = .slice a9 (x1.Operations).length c10 := hp17_
      have e150 : ρ 120 = .int .i64 x82.Return := hp16_
      obtain ⟨ad151, e152⟩ := hp15_
      have e152 : ρ 119 = .pointer (some ad151) := e152
      try rw [e152] at hs
      obtain ⟨ad153, e154⟩ := hp14_
      have e154 : ρ 118 = .pointer (some ad153) := e154
      try rw [e154] at hs
      have e155 : ρ 117 = .int .i64 x60 := hp13_
      have e156 : ρ 116 = .slice a9 (x1.Operations).length c10 := hp12_
      have e157 : ρ 115 = .bool (x73.Process == x77.Process) := hp11_
      have e158 : ρ 114 = .bool (x73.Process == x77.Process) := hp10_
      have e159 : ρ 113 = .int .i64 x77.Process := hp9_
      obtain ⟨ad160, e161⟩ := hp8_
      have e161 : ρ 112 = .pointer (some ad160) := e161
      try rw [e161] at hs
      obtain ⟨ad162, e163⟩ := hp7_
      have e163 : ρ 111 = .pointer (some ad162) := e163
      try rw [e163] at hs
      have e164 : ρ 110 = .int .i64 x17 := hp6_
      have e165 : ρ 109 = .slice a9 (x1.Operations).length c10 := hp5_
      have e166 : ρ 108 = .int .i64 x73.Process := hp4_
      obtain ⟨ad167, e168⟩ := hp3_
      have e168 : ρ 107 = .pointer (some ad167) := e168
      try rw [e168] at hs
      obtain ⟨ad169, e170⟩ := hp2_
      have e170 : ρ 106 = .pointer (some ad169) := e170
      try rw [e170] at hs
      have e171 : ρ 105 = .int .i64 x60 := hp1_
      have e172 : ρ 104 = .slice a9 (x1.Operations).length c10 := hp0_
      refine WA.done (by kernel_rfl) ?_
      exact Jk69 (decide (x86.Call < x82.Return)) _ _ ((hu140 3 rfl).trans h59_3) ((hu140 4 rfl).trans h59_4) ((hu140 8 rfl).trans h59_8) e141 ((hs.mask []).pick [8]) hf } }
      {
      refine W.any (by kernel_rfl) 24 0 [true, true, true, true, true, true, true, true, true, true, true, true, true, true, true, true, true, true, true, true, true, true, true, true] rfl rfl (poAt [pv (.slice a9 (x1.Operations).length c10), pv (.int .i64 x60), pq (fun y : Addr => .pointer (some y)) (fun v => [pl t_history_Operation x73 (adOf v)]) (fun v => []), pq (fun y : Addr => .pointer (some y)) (fun v => [pl (tInt .i64) x73.Process (adOf v)]) (fun v => []), pv (.int .i64 x73.Process), pv (.slice a9 (x1.Operations).length c10), pv (.int .i64 x17), pq (fun y : Addr => .pointer (some y)) (fun v => [pl t_history_Operation x77 (adOf v)]) (fun v => []), pq (fun y : Addr => .pointer (some y)) (fun v => [pl (tInt .i64) x77.Process (adOf v)]) (fun v => []), pv (.int .i64 x77.Process), pv (.bool (x73.Process == x77.Process)), pv (.bool (x73.Process == x77.Process)), pv (undef), pv (undef), pv (undef), pv (undef), pv (undef), pv (undef), pv (undef), pv (undef), pv (undef), pv (undef), pv (undef), pv (.bool false)]) (Λ := []) hs (by kernel_rfl) (by kernel_rfl) (by kernel_rfl) ⟨⟨⟨⟨⟨⟨⟨⟨⟨⟨⟨⟨⟨⟨⟨⟨⟨⟨⟨⟨⟨⟨⟨⟨trivial, ?_⟩, ?_⟩, ?_⟩, ?_⟩, ?_⟩, ?_⟩, ?_⟩, ?_⟩, ?_⟩, ?_⟩, ?_⟩, ?_⟩, ?_⟩, ?_⟩, ?_⟩, ?_⟩, ?_⟩, ?_⟩, ?_⟩, ?_⟩, ?_⟩, ?_⟩, ?_⟩, ?_⟩ ?_
      {
      intro ρ w Γx Λx hs hu hp
      refine WL.move (v := .slice a9 (x1.Operations).length c10) ((hu 3 rfl).trans h59_3) ?_
      exact WL.nil ⟨rfl, _, rfl, rfl, hs.cutG 0 0⟩ }
      {
      intro ρ w Γx Λx hs hu hp
      refine WL.move (v := .int .i64 x60) ((hu 8 rfl).trans h59_8) ?_
      exact WL.nil ⟨rfl, _, rfl, rfl, hs.cutG 0 0⟩ }
      {
      intro ρ w Γx Λx hs hu hp
      have e173 : ρ 104 = .slice a9 (x1.Operations).length c10 := (hp 0 rfl).1
      have e174 : ρ 105 = .int .i64 x60 := (hp 1 rfl).1
      refine WL.indexAddr hs (Γx.length + 0) (getApp rfl) UN22 TI35 e173 e174 hxx73 (fun ad74 hs => ?_)
      have hs := hs.add (it := pl t_history_Operation x73 ad74) fun ok hA => hA.get 0 rfl
      exact WL.nil ⟨rfl, _, rfl, ⟨ad74, rfl⟩, hs.cutG 1 1⟩ }
      {
      intro ρ w Γx Λx hs hu hp
      obtain ⟨⟨ad175, e176r⟩, hm177⟩ := hp 2 rfl
      have e176 : ρ 106 = .pointer (some ad175) := e176r
      rw [e176r] at hm177
      have hs := hs.memo1 (it := pl t_history_Operation x73 ad175) (List.mem_append.2 (.inl (hm177 _ (List.mem_of_getElem? (i := 0) rfl))))
      refine WL.fieldAddrP (z := x73.Process) F_history_Operation_Process hs 0 rfl e176 FA35_0 rfl (fun ad75 hs => ?_)
      have hs := hs.add (it := pl (tInt .i64) x73.Process ad75) fun ok hA => hA.get 0 rfl
      exact WL.nil ⟨rfl, _, rfl, ⟨ad75, rfl⟩, hs.cutG 1 2⟩ }
      {
      intro ρ w Γx Λx hs hu hp
      obtain ⟨⟨ad178, e179r⟩, hm180⟩ := hp 3 rfl
      have e179 : ρ 107 = .pointer (some ad178) := e179r
      rw [e179r] at hm180
      have hs := hs.memo1 (it := pl (tInt .i64) x73.Process ad178) (List.mem_append.2 (.inl (hm180 _ (List.mem_of_getElem? (i := 0) rfl))))
      refine WL.loadP hs 0 rfl TI3 (.inr rfl) e179 (fun v76 hs => ?_)
      obtain rfl := hs.int 0 rfl
      exact WL.nil ⟨rfl, _, rfl, rfl, hs.cutG 0 2⟩ }
      {
      intro ρ w Γx Λx hs hu hp
      refine WL.move (v := .slice a9 (x1.Operations).length c10) ((hu 3 rfl).trans h59_3) ?_
      exact WL.nil ⟨rfl, _, rfl, rfl, hs.cutG 0 0⟩ }
      {
      intro ρ w Γx Λx hs hu hp
      refine WL.move (v := .int .i64 x17) ((hu 4 rfl).trans h59_4) ?_
      exact WL.nil ⟨rfl, _, rfl, rfl, hs.cutG 0 0⟩ }
      {
      intro ρ w Γx Λx hs hu hp
      have e181 : ρ 109 = .slice a9 (x1.Operations).length c10 := (hp 5 rfl).1
      have e182 : ρ 110 = .int .i64 x17 := (hp 6 rfl).1
      refine WL.indexAddr hs (Γx.length + 0) (getApp rfl) UN22 TI35 e181 e182 hxx77 (fun ad78 hs => ?_)
      have hs := hs.add (it := pl t_history_Operation x77 ad78) fun ok hA => hA.get 0 rfl
      exact WL.nil ⟨rfl, _, rfl, ⟨ad78, rfl⟩, hs.cutG 1 1⟩ }
      {
      intro ρ w Γx Λx hs hu hp
      obtain ⟨⟨ad183, e184r⟩, hm185⟩ := hp 7 rfl
      have e184 : ρ 111 = .pointer (some ad183) := e184r
      rw [e184r] at hm185
      have hs := hs.memo1 (it := pl t_history_Operation x77 ad183) (List.mem_append.2 (.inl (hm185 _ (List.mem_of_getElem? (i := 0) rfl))))
      refine WL.fieldAddrP (z := x77.Process) F_history_Operation_Process hs 0 rfl e184 FA35_0 rfl (fun ad79 hs => ?_)
      have hs := hs.add (it := pl (tInt .i64) x77.Process ad79) fun ok hA => hA.get 0 rfl
      exact WL.nil ⟨rfl, _, rfl, ⟨ad79, rfl⟩, hs.cutG 1 2⟩ }
      {
      intro ρ w Γx Λx hs hu hp
      obtain ⟨⟨ad186, e187r⟩, hm188⟩ := hp 8 rfl
      have e187 : ρ 112 = .pointer (some ad186) := e187r
      rw [e187r] at hm188
      have hs := hs.memo1 (it := pl (tInt .i64) x77.Process ad186) (List.mem_append.2 (.inl (hm188 _ (List.mem_of_getElem? (i := 0) rfl))))
      refine WL.loadP hs 0 rfl TI3 (.inr rfl) e187 (fun v80 hs => ?_)
      obtain rfl := hs.int 0 rfl
      exact WL.nil ⟨rfl, _, rfl, rfl, hs.cutG 0 2⟩ }
      {
      intro ρ w Γx Λx hs hu hp
      have e189 : ρ 108 = .int .i64 x73.Process := (hp 4 rfl).1
      have e190 : ρ 113 = .int .i64 x77.Process := (hp 9 rfl).1
      refine WL.bin (v := .bool (x73.Process == x77.Process)) e189 e190 (ib_eql _ _ _) ?_
      exact WL.nil ⟨rfl, _, rfl, rfl, hs.cutG 0 0⟩ }
      {
      intro ρ w Γx Λx hs hu hp
      have e191 : ρ 114 = .bool (x73.Process == x77.Process) := (hp 10 rfl).1
      refine WL.move (v := .bool (x73.Process == x77.Process)) e191 ?_
      exact WL.nil ⟨rfl, _, rfl, rfl, hs.cutG 0 0⟩ }
      {
      intro ρ w Γx Λx hs hu hp
      have e192 : ρ 115 = .bool (x73.Process == x77.Process) := (hp 11 rfl).1
      refine WL.pass ((wanted_of rfl rfl (bool_tr e192 hc81)).trans rfl) rfl ?_
      exact WL.nil ⟨rfl, _, rfl, rfl, hs.cutG 0 0⟩ }
      {
      intro ρ w Γx Λx hs hu hp
      have e193 : ρ 115 = .bool (x73.Process == x77.Process) := (hp 11 rfl).1
      refine WL.pass ((wanted_of rfl rfl (bool_tr e193 hc81)).trans rfl) rfl ?_
      exact WL.nil ⟨rfl, _, rfl, rfl, hs.cutG 0 0⟩ }
      {
      intro ρ w Γx Λx hs hu hp
      have e194 : ρ 116 = undef := (hp 12 rfl).1
      have e195 : ρ 117 = undef := (hp 13 rfl).1
      have e196 : ρ 115 = .bool (x73.Process == x77.Process) := (hp 11 rfl).1
      refine WL.pass ((wanted_of rfl rfl (bool_tr e196 hc81)).trans rfl) rfl ?_
      exact WL.nil ⟨rfl, _, rfl, rfl, hs.cutG 0 0⟩ }
      {
      intro ρ w Γx Λx hs hu hp
      have e197 : ρ 118 = undef := (hp 14 rfl).1
      have e198 : ρ 115 = .bool (x73.Process == x77.Process) := (hp 11 rfl).1
      refine WL.pass ((wanted_of rfl rfl (bool_tr e198 hc81)).trans rfl) rfl ?_
      exact WL.nil ⟨rfl, _, rfl, rfl, hs.cutG 0 0⟩ }
      {
      intro ρ w Γx Λx hs hu hp
      have e199 : ρ 119 = undef := (hp 15 rfl).1
      have e200 : ρ 115 = .bool (x73.Process == x77.Process) := (hp 11 rfl).1
      refine WL.pass ((wanted_of rfl rfl (bool_tr e200 hc81)).trans rfl) rfl ?_
      exact WL.nil ⟨rfl, _, rfl, rfl, hs.cutG 0 0⟩ }
      {
      intro ρ w Γx Λx hs hu hp
      have e201 : ρ 115 = .bool (x73.Process == x77.Process) := (hp 11 rfl).1
      refine WL.pass ((wanted_of rfl rfl (bool_tr e201 hc81)).trans rfl) rfl ?_
      exact WL.nil ⟨rfl, _, rfl, rfl, hs.cutG 0 0⟩ }
      {
      intro ρ w Γx Λx hs hu hp
      have e202 : ρ 115 = .bool (x73.Process == x77.Process) := (hp 11 rfl).1
      refine WL.pass ((wanted_of rfl rfl (bool_tr e202 hc81)).trans rfl) rfl ?_
      exact WL.nil ⟨rfl, _, rfl, rfl, hs.cutG 0 0⟩ }
      {
      intro ρ w Γx Λx hs hu hp
      have e203 : ρ 121 = undef := (hp 17 rfl).1
      have e204 : ρ 122 = undef := (hp 18 rfl).1
      have e205 : ρ 115 = .bool (x73.Process == x77.Process) := (hp 11 rfl).1
      refine WL.pass ((wanted_of rfl rfl (bool_tr e205 hc81)).trans rfl) rfl ?_
      exact WL.nil ⟨rfl, _, rfl, rfl, hs.cutG 0 0⟩ }
      {
      intro ρ w Γx Λx hs hu hp
      have e206 : ρ 123 = undef := (hp 19 rfl).1
      have e207 : ρ 115 = .bool (x73.Process == x77.Process) := (hp 11 rfl).1
      refine WL.pass ((wanted_of rfl rfl (bool_tr e207 hc81)).trans rfl) rfl ?_
      exact WL.nil ⟨rfl, _, rfl, rfl, hs.cutG 0 0⟩ }
      {
      intro ρ w Γx Λx hs hu hp
      have e208 : ρ 124 = undef := (hp 20 rfl).1
      have e209 : ρ 115 = .bool (x73.Process == x77.Process) := (hp 11 rfl).1
      refine WL.pass ((wanted_of rfl rfl (bool_tr e209 hc81)).trans rfl) rfl ?_
      exact WL.nil ⟨rfl, _, rfl, rfl, hs.cutG 0 0⟩ }
      {
      intro ρ w Γx Λx hs hu hp
      have e210 : ρ 120 = undef := (hp 16 rfl).1
      have e211 : ρ 125 = undef := (hp 21 rfl).1
      have e212 : ρ 115 = .bool (x73.Process == x77.Process) := (hp 11 rfl).1
      refine WL.pass ((wanted_of rfl rfl (bool_tr e212 hc81)).trans rfl) rfl ?_
      exact WL.nil ⟨rfl, _, rfl, rfl, hs.cutG 0 0⟩ }
      {
      intro ρ w Γx Λx hs hu hp
      have e213 : ρ 115 = .bool (x73.Process == x77.Process) := (hp 11 rfl).1
      have e214 : ρ 126 = undef := (hp 22 rfl).1
      refine WL.pickF (v := .bool false) (bool_tr e213 hc81) rfl ?_
      exact WL.nil ⟨rfl, _, rfl, rfl, hs.cutG 0 0⟩ }
      {
      intro ρ w hs hu215 hp
      obtain ⟨⟨⟨⟨⟨⟨⟨⟨⟨⟨⟨⟨⟨⟨⟨⟨⟨⟨⟨⟨⟨⟨⟨⟨_, hp0_⟩, hp1_⟩, hp2_⟩, hp3_⟩, hp4_⟩, hp5_⟩, hp6_⟩, hp7_⟩, hp8_⟩, hp9_⟩, hp10_⟩, hp11_⟩, hp12_⟩, hp13_⟩, hp14_⟩, hp15_⟩, hp16_⟩, hp17_⟩, hp18_⟩, hp19_⟩, hp20_⟩, hp21_⟩, hp22_⟩, hp23_⟩ := hp
      have hs : St ok (bz w0) w [pl (tInt .i64) x77.Process (adOf (ρ 112)), pl t_history_Operation x77 (adOf (ρ 111)), pl (tInt .i64) x73.Process (adOf (ρ 107)), pl t_history_Operation x73 (adOf (ρ 106)), vl (tSlice t_history_Operation) x1.Operations (.slice a9 (x1.Operations).length c10)] [] := hs
      have e216 : ρ 127 = .bool false := hp23_
      have e217 : ρ 126 = undef := hp22_
      have e218 : ρ 125 = undef := hp21_
      have e219 : ρ 124 = undef := hp20_
      have e220 : ρ 123 = undef := hp19_
      have e221 : ρ 122 = undef := hp18_
      have e222 : ρ 121 = undef := hp17_
      have e223 : ρ 120 = undef := hp16_
      have e224 : ρ 119 = undef := hp15_
      have e225 : ρ 118 = undef := hp14_
      have e226 : ρ 117 = undef := hp13_
      have e227 : ρ 116 = undef := hp12_
      have e228 : ρ 115 = .bool (x73.Process == x77.Process) := hp11_
      have e229 : ρ 114 = .bool (x73.Process == x77.Process) := hp10_
      have e230 : ρ 113 = .int .i64 x77.Process := hp9_
      obtain ⟨ad231, e232⟩ := hp8_
      have e232 : ρ 112 = .pointer (some ad231) := e232
      try rw [e232] at hs
      obtain ⟨ad233, e234⟩ := hp7_
      have e234 : ρ 111 = .pointer (some ad233) := e234
      try rw [e234] at hs
      have e235 : ρ 110 = .int .i64 x17 := hp6_
      have e236 : ρ 109 = .slice a9 (x1.Operations).length c10 := hp5_
      have e237 : ρ 108 = .int .i64 x73.Process := hp4_
      obtain ⟨ad238, e239⟩ := hp3_
      have e239 : ρ 107 = .pointer (some ad238) := e239
      try rw [e239] at hs
      obtain ⟨ad240, e241⟩ := hp2_
      have e241 : ρ 106 = .pointer (some ad240) := e241
      try rw [e241] at hs
      have e242 : ρ 105 = .int .i64 x60 := hp1_
      have e243 : ρ 104 = .slice a9 (x1.Operations).length c10 := hp0_
      refine WA.done (by kernel_rfl) ?_
      exact Jk69 false _ _ ((hu215 3 rfl).trans h59_3) ((hu215 4 rfl).trans h59_4) ((hu215 8 rfl).trans h59_8) e216 ((hs.mask []).pick [4]) hf } } }
      {
      refine W.cond_false (bool_tr rfl hc64) ?_
      refine W.exit ?_
      have hr := Option.some.inj hf; subst hr
      have hr := hbbs61 _ rfl; subst hr
      have hf := hfs61
      exact Jk24  _ _ h59_3 h59_4 ((hs.mask []).pick [0]) hf }
    refine W.seqK fun K245 hK245 => ?_
    refine W.region ?_
    refine WL.assign (v := .int .i64 0) rfl ?_
    refine WL.nil ?_
    refine hK245 _ _ ?_
    refine W.block ?_
    obtain ⟨bs248, hbs248, hfs248⟩ := bindE hf
    refine W.loop hbs248 (fun s ρ w => match s with | x247 => ρ 3 = .slice a9 (x1.Operations).length c10 ∧ ρ 4 = .int .i64 x17 ∧ ρ 7 = .int .i64 x247 ∧ St ok (bz w0) w [vl (tSlice t_history_Operation) x1.Operations (.slice a9 (x1.Operations).length c10)] []) ⟨h39_3, h39_4, rfl, (hs.mask []).pick [2]⟩ ?_
    intro x247 ρ w os248 hI hf hbbs248
    obtain ⟨h246_3, h246_4, h246_7, hs⟩ := hI
    unfold esref39_Validate.l2 at hf
    refine W.seqK fun K249 hK249 => ?_
    refine W.seqK fun K250 hK250 => ?_
    refine W.region ?_
    refine WL.move (v := .int .i64 x247) h246_7 ?_
    refine WL.move (v := .int .i64 x17) h246_4 ?_
    refine WL.bin (v := .bool (decide (x247 < x17))) rfl rfl (ib_lss _ _ _) ?_
    refine WL.nil ?_
    refine hK250 _ _ ?_
    rcases iteE hf with ⟨hc251, hf⟩ | ⟨hc251, hf⟩
    {
    refine W.cond_true (bool_tr rfl hc251) ?_
    refine W.skip ?_
    refine hK249 _ _ ?_
    refine W.seqK fun K252 hK252 => ?_
    refine W.block ?_
    refine W.seqK fun K253 hK253 => ?_
    have Jk256 : ∀ (x255 : Bool) (ρ : Env) (w : World), ρ 3 = .slice a9 (x1.Operations).length c10 → ρ 4 = .int .i64 x17 → ρ 7 = .int .i64 x247 → ρ 98 = .bool x255 → St ok (bz w0) w [vl (tSlice t_history_Operation) x1.Operations (.slice a9 (x1.Operations).length c10)] [] → esref39_Validate.j5 x247 x255 = some os248 → K253 ρ w := by
      intro x255 ρ w h254_3 h254_4 h254_7 h254_98 hs hf
      refine hK253 _ _ ?_
      unfold esref39_Validate.j5 at hf
      rcases iteE hf with ⟨hc257, hf⟩ | ⟨hc257, hf⟩
      {
      refine W.cond_true (bool_tr h254_98 hc257) ?_
      refine W.seqK fun K258 hK258 => ?_
      refine W.region ?_
      refine WL.assign (v := .int .i64 5) rfl ?_
      refine WL.nil ?_
      refine hK258 _ _ ?_
      refine W.ret ?_
      have hr := Option.some.inj hf; subst hr
      have hr := hbbs248 _ rfl; subst hr
      have hf := hfs248
      have hr := Option.some.inj hf; subst hr
      have hr := hbbs18 _ rfl; subst hr
      have hf := hfs18
      have hr := Option.some.inj hf; subst hr
      exact ⟨_, resOk_one rfl rfl, (), rfl, (hs.mask []).pick []⟩ }
      {
      refine W.cond_false (bool_tr h254_98 hc257) ?_
      refine W.skip ?_
      refine hK252 _ _ ?_
      refine W.region ?_
      refine WL.move (v := .int .i64 x247) h254_7 ?_
      obtain ⟨x259, ex259, hf⟩ := letE hf
      refine WL.bin (v := .int .i64 x259) rfl rfl (ib_as ex259 (ib_add _ _ _)) ?_
      refine WL.assign (v := .int .i64 x259) rfl ?_
      refine WL.nil ?_
      exact ⟨_, (Option.some.inj hf).symm, h254_3, h254_4, rfl, (hs.mask []).pick [0]⟩ }
    obtain ⟨x260, hxx260, hf⟩ := bindE hf
    obtain ⟨x264, hxx264, hf⟩ := bindE hf
    rcases iteE hf with ⟨hc268, hf⟩ | ⟨hc268, hf⟩
    {
    refine W.any (by kernel_rfl) 45 0 [true, true, true, true, true, true, true, true, true, true, true, true, true, true, true, true, true, true, true, true, true, true, true, true, true, true, true, true, true, true, true, true, true, true, true, true, true, true, true, true, true, true, true, true, true] rfl rfl (poAt [pv (.slice a9 (x1.Operations).length c10), pv (.int .i64 x17), pq (fun y : Addr => .pointer (some y)) (fun v => [pl t_history_Operation x260 (adOf v)]) (fun v => []), pq (fun y : Addr => .pointer (some y)) (fun v => [pl (tInt .i64) x260.Call (adOf v)]) (fun v => []), pv (.int .i64 x260.Call), pv (.slice a9 (x1.Operations).length c10), pv (.int .i64 x247), pq (fun y : Addr => .pointer (some y)) (fun v => [pl t_history_Operation x264 (adOf v)]) (fun v => []), pq (fun y : Addr => .pointer (some y)) (fun v => [pl (tInt .i64) x264.Return (adOf v)]) (fun v => []), pv (.int .i64 x264.Return), pv (.bool (x260.Call == x264.Return)), pv (.bool (x260.Call == x264.Return)), pv (undef), pv (undef), pv (undef), pv (undef), pv (undef), pv (undef), pv (undef), pv (undef), pv (undef), pv (undef), pv (undef), pv (undef), pv (undef), pv (undef), pv (undef), pv (undef), pv (undef), pv (undef), pv (undef), pv (undef), pv (undef), pv (undef), pv (undef), pv (undef), pv (undef), pv (undef), pv (undef), pv (undef), pv (undef), pv (undef), pv (undef), pv (undef), pv (.bool true)]) (Λ := []) hs (by kernel_rfl) (by kernel_rfl) (by kernel_rfl) ⟨⟨⟨⟨⟨⟨⟨⟨⟨⟨⟨⟨⟨⟨⟨⟨⟨⟨⟨⟨⟨⟨⟨⟨⟨⟨⟨⟨⟨⟨⟨⟨⟨⟨⟨⟨⟨⟨⟨⟨⟨⟨⟨⟨⟨trivial, ?_⟩, ?_⟩, ?_⟩, ?_⟩, ?_⟩, ?_⟩, ?_⟩, ?_⟩, ?_⟩, ?_⟩, ?_⟩, ?_⟩, ?_⟩, ?_⟩, ?_⟩, ?_⟩, ?_⟩, ?_⟩, ?_⟩, ?_⟩, ?_⟩, ?_⟩, ?_⟩, ?_⟩, ?_⟩, ?_⟩, ?_⟩, ?_⟩, ?_⟩, ?_⟩, ?_⟩, ?_⟩, ?_⟩, ?_⟩, ?_⟩, ?_⟩, ?_⟩, ?_⟩, ?_⟩, ?_⟩, ?_⟩, ?_⟩, ?_⟩, ?_⟩, ?_⟩ ?_
    {
    intro ρ w Γx Λx hs hu hp
    refine WL.move (v := .slice a9 (x1.Operations).length c10) ((hu 3 rfl).trans h246_3) ?_
    exact WL.nil ⟨rfl, _, rfl, rfl, hs.cutG 0 0⟩ }
    {
    intro ρ w Γx Λx hs hu hp
    refine WL.move (v := .int .i64 x17) ((hu 4 rfl).trans h246_4) ?_
    exact WL.nil ⟨rfl, _, rfl, rfl, hs.cutG 0 0⟩ }
    {
    intro ρ w Γx Λx hs hu hp
    have e269 : ρ 54 = .slice a9 (x1.Operations).length c10 := (hp 0 rfl).1
    have e270 : ρ 55 = .int .i64 x17 := (hp 1 rfl).1
    refine WL.indexAddr hs (Γx.length + 0) (getApp rfl) UN22 TI35 e269 e270 hxx260 (fun ad261 hs => ?_)
    have hs := hs.add (it := pl t_history_Operation x260 ad261) fun ok hA => hA.get 0 rfl
    exact WL.nil ⟨rfl, _, rfl, ⟨ad261, rfl⟩, hs.cutG 1 1⟩ }
    {
    intro ρ w Γx Λx hs hu hp
    obtain ⟨⟨ad271, e272r⟩, hm273⟩ := hp 2 rfl
    have e272 : ρ 56 = .pointer (some ad271) := e272r
    rw [e272r] at hm273
    have hs := hs.memo1 (it := pl t_history_Operation x260 ad271) (List.mem_append.2 (.inl (hm273 _ (List.mem_of_getElem? (i := 0) rfl))))
    refine WL.fieldAddrP (z := x260.Call) F_history_Operation_Call hs 0 rfl e272 FA35_4 rfl (fun ad262 hs => ?_)
    have hs := hs.add (it := pl (tInt .i64) x260.Call ad262) fun ok hA => hA.get 0 rfl
    exact WL.nil ⟨rfl, _, rfl, ⟨ad262, rfl⟩, hs.cutG 1 2⟩ }
    {
    intro ρ w Γx Λx hs hu hp
    obtain ⟨⟨ad274, e275r⟩, hm276⟩ := hp 3 rfl
    have e275 : ρ 57 = .pointer (some ad274) := e275r
    rw [e275r] at hm276
    have hs := hs.memo1 (it := pl (tInt .i64) x260.Call ad274) (List.mem_append.2 (.inl (hm276 _ (List.mem_of_getElem? (i := 0) rfl))))
    refine WL.loadP hs 0 rfl TI3 (.inr rfl) e275 (fun v263 hs => ?_)
    obtain rfl := hs.int 0 rfl
    exact WL.nil ⟨rfl, _, rfl, rfl, hs.cutG 0 2⟩ }
    {
    intro ρ w Γx Λx hs hu hp
    refine WL.move (v := .slice a9 (x1.Operations).length c10) ((hu 3 rfl).trans h246_3) ?_
    exact WL.nil ⟨rfl, _, rfl, rfl, hs.cutG 0 0⟩ }
    {
    intro ρ w Γx Λx hs hu hp
    refine WL.move (v := .int .i64 x247) ((hu 7 rfl).trans h246_7) ?_
    exact WL.nil ⟨rfl, _, rfl, rfl, hs.cutG 0 0⟩ }
    {
    intro ρ w Γx Λx hs hu hp
    have e277 : ρ 59 = .slice a9 (x1.Operations).length c10 := (hp 5 rfl).1
    have e278 : ρ 60 = .int .i64 x247 := (hp 6 rfl).1
    refine WL.indexAddr hs (Γx.length + 0) (getApp rfl) UN22 TI35 e277 e278 hxx264 (fun ad265 hs => ?_)
    have hs := hs.add (it := pl t_history_Operation x264 ad265) fun ok hA => hA.get 0 rfl
    exact WL.nil ⟨rfl, _, rfl, ⟨ad265, rfl⟩, hs.cutG 1 1⟩ }
    {
    intro ρ w Γx Λx hs hu hp
    obtain ⟨⟨ad279, e280r⟩, hm281⟩ := hp 7 rfl
    have e280 : ρ 61 = .pointer (some ad279) := e280r
    rw [e280r] at hm281
    have hs := hs.memo1 (it := pl t_history_Operation x264 ad279) (List.mem_append.2 (.inl (hm281 _ (List.mem_of_getElem? (i := 0) rfl))))
    refine WL.fieldAddrP (z := x264.Return) F_history_Operation_Return hs 0 rfl e280 FA35_5 rfl (fun ad266 hs => ?_)
    have hs := hs.add (it := pl (tInt .i64) x264.Return ad266) fun ok hA => hA.get 0 rfl
    exact WL.nil ⟨rfl, _, rfl, ⟨ad266, rfl⟩, hs.cutG 1 2⟩ }
    {
    intro ρ w Γx Λx hs hu hp
    obtain ⟨⟨ad282, e283r⟩, hm284⟩ := hp 8 rfl
    have e283 : ρ 62 = .pointer (some ad282) := e283r
    rw [e283r] at hm284
    have hs := hs.memo1 (it := pl (tInt .i64) x264.Return ad282) (List.mem_append.2 (.inl (hm284 _ (List.mem_of_getElem? (i := 0) rfl))))
    refine WL.loadP hs 0 rfl TI3 (.inr rfl) e283 (fun v267 hs => ?_)
    obtain rfl := hs.int 0 rfl
    exact WL.nil ⟨rfl, _, rfl, rfl, hs.cutG 0 2⟩ }
    {
    intro ρ w Γx Λx hs hu hp
    have e285 : ρ 58 = .int .i64 x260.Call := (hp 4 rfl).1
    have e286 : ρ 63 = .int .i64 x264.Return := (hp 9 rfl).1
    refine WL.bin (v := .bool (x260.Call == x264.Return)) e285 e286 (ib_eql _ _ _) ?_
    exact WL.nil ⟨rfl, _, rfl, rfl, hs.cutG 0 0⟩ }
    {
    intro ρ w Γx Λx hs hu hp
    have e287 : ρ 64 = .bool (x260.Call == x264.Return) := (hp 10 rfl).1
    refine WL.move (v := .bool (x260.Call == x264.Return)) e287 ?_
    exact WL.nil ⟨rfl, _, rfl, rfl, hs.cutG 0 0⟩ }
    {
    intro ρ w Γx Λx hs hu hp
    have e288 : ρ 65 = .bool (x260.Call == x264.Return) := (hp 11 rfl).1
    refine WL.pass ((wanted_of rfl rfl (bool_tr e288 hc268)).trans rfl) rfl ?_
    exact WL.nil ⟨rfl, _, rfl, rfl, hs.cutG 0 0⟩ }
    {
    intro ρ w Γx Λx hs hu hp
    have e289 : ρ 65 = .bool (x260.Call == x264.Return) := (hp 11 rfl).1
    refine WL.pass ((wanted_of rfl rfl (bool_tr e289 hc268)).trans rfl) rfl ?_
    exact WL.nil ⟨rfl, _, rfl, rfl, hs.cutG 0 0⟩ }
    {
    intro ρ w Γx Λx hs hu hp
    have e290 : ρ 66 = undef := (hp 12 rfl).1
    have e291 : ρ 67 = undef := (hp 13 rfl).1
    have e292 : ρ 65 = .bool (x260.Call == x264.Return) := (hp 11 rfl).1
    refine WL.pass ((wanted_of rfl rfl (bool_tr e292 hc268)).trans rfl) rfl ?_
    exact WL.nil ⟨rfl, _, rfl, rfl, hs.cutG 0 0⟩ }
    {
    intro ρ w Γx Λx hs hu hp
    have e293 : ρ 68 = undef := (hp 14 rfl).1
    have e294 : ρ 65 = .bool (x260.Call == x264.Return) := (hp 11 rfl).1
    refine WL.pass ((wanted_of rfl rfl (bool_tr e294 hc268)).trans rfl) rfl ?_
    exact WL.nil ⟨rfl, _, rfl, rfl, hs.cutG 0 0⟩ }
    {
    intro ρ w Γx Λx hs hu hp
    have e295 : ρ 69 = undef := (hp 15 rfl).1
    have e296 : ρ 65 = .bool (x260.Call == x264.Return) := (hp 11 rfl).1
    refine WL.pass ((wanted_of rfl rfl (bool_tr e296 hc268)).trans rfl) rfl ?_
    exact WL.nil ⟨rfl, _, rfl, rfl, hs.cutG 0 0⟩ }
    {
    intro ρ w Γx Λx hs hu hp
    have e297 : ρ 70 = undef := (hp 16 rfl).1
    have e298 : ρ 65 = .bool (x260.Call == x264.Return) := (hp 11 rfl).1
    refine WL.pass ((wanted_of rfl rfl (bool_tr e298 hc268)).trans rfl) rfl ?_
    exact WL.nil ⟨rfl, _, rfl, rfl, hs.cutG 0 0⟩ }
    {
    intro ρ w Γx Λx hs hu hp
    have e299 : ρ 71 = undef := (hp 17 rfl).1
    have e300 : ρ 65 = .bool (x260.Call == x264.Return) := (hp 11 rfl).1
    refine WL.pass ((wanted_of rfl rfl (bool_tr e300 hc268)).trans rfl) rfl ?_
    exact WL.nil ⟨rfl, _, rfl, rfl, hs.cutG 0 0⟩ }
    {
    intro ρ w Γx Λx hs hu hp
    have e301 : ρ 72 = undef := (hp 18 rfl).1
    refine WL.pass (wanted_undef rfl rfl e301) rfl ?_
    exact WL.nil ⟨rfl, _, rfl, rfl, hs.cutG 0 0⟩ }
    {
    intro ρ w Γx Λx hs hu hp
    have e302 : ρ 72 = undef := (hp 18 rfl).1
    refine WL.pass (wanted_undef rfl rfl e302) rfl ?_
    exact WL.nil ⟨rfl, _, rfl, rfl, hs.cutG 0 0⟩ }
    {
    intro ρ w Γx Λx hs hu hp
    have e303 : ρ 73 = undef := (hp 19 rfl).1
    have e304 : ρ 74 = undef := (hp 20 rfl).1
    have e305 : ρ 72 = undef := (hp 18 rfl).1
    refine WL.pass (wanted_undef rfl rfl e305) rfl ?_
    exact WL.nil ⟨rfl, _, rfl, rfl, hs.cutG 0 0⟩ }
    {
    intro ρ w Γx Λx hs hu hp
    have e306 : ρ 75 = undef := (hp 21 rfl).1
    have e307 : ρ 72 = undef := (hp 18 rfl).1
    refine WL.pass (wanted_undef rfl rfl e307) rfl ?_
    exact WL.nil ⟨rfl, _, rfl, rfl, hs.cutG 0 0⟩ }
    {
    intro ρ w Γx Λx hs hu hp
    have e308 : ρ 76 = undef := (hp 22 rfl).1
    have e309 : ρ 72 = undef := (hp 18 rfl).1
    refine WL.pass (wanted_undef rfl rfl e309) rfl ?_
    exact WL.nil ⟨rfl, _, rfl, rfl, hs.cutG 0 0⟩ }
    {
    intro ρ w Γx Λx hs hu hp
    have e310 : ρ 72 = undef := (hp 18 rfl).1
    refine WL.pass (wanted_undef rfl rfl e310) rfl ?_
    exact WL.nil ⟨rfl, _, rfl, rfl, hs.cutG 0 0⟩ }
    {
    intro ρ w Γx Λx hs hu hp
    have e311 : ρ 72 = undef := (hp 18 rfl).1
    refine WL.pass (wanted_undef rfl rfl e311) rfl ?_
    exact WL.nil ⟨rfl, _, rfl, rfl, hs.cutG 0 0⟩ }
    {
    intro ρ w Γx Λx hs hu hp
    have e312 : ρ 78 = undef := (hp 24 rfl).1
    have e313 : ρ 79 = undef := (hp 25 rfl).1
    have e314 : ρ 72 = undef := (hp 18 rfl).1
    refine WL.pass (wanted_undef rfl rfl e314) rfl ?_
    exact WL.nil ⟨rfl, _, rfl, rfl, hs.cutG 0 0⟩ }
    {
    intro ρ w Γx Λx hs hu hp
    have e315 : ρ 80 = undef := (hp 26 rfl).1
    have e316 : ρ 72 = undef := (hp 18 rfl).1
    refine WL.pass (wanted_undef rfl rfl e316) rfl ?_
    exact WL.nil ⟨rfl, _, rfl, rfl, hs.cutG 0 0⟩ }
    {
    intro ρ w Γx Λx hs hu hp
    have e317 : ρ 81 = undef := (hp 27 rfl).1
    have e318 : ρ 72 = undef := (hp 18 rfl).1
    refine WL.pass (wanted_undef rfl rfl e318) rfl ?_
    exact WL.nil ⟨rfl, _, rfl, rfl, hs.cutG 0 0⟩ }
    {
    intro ρ w Γx Λx hs hu hp
    have e319 : ρ 77 = undef := (hp 23 rfl).1
    have e320 : ρ 82 = undef := (hp 28 rfl).1
    have e321 : ρ 72 = undef := (hp 18 rfl).1
    refine WL.pass (wanted_undef rfl rfl e321) rfl ?_
    exact WL.nil ⟨rfl, _, rfl, rfl, hs.cutG 0 0⟩ }
    {
    intro ρ w Γx Λx hs hu hp
    have e322 : ρ 83 = undef := (hp 29 rfl).1
    have e323 : ρ 72 = undef := (hp 18 rfl).1
    refine WL.pass (wanted_undef rfl rfl e323) rfl ?_
    exact WL.nil ⟨rfl, _, rfl, rfl, hs.cutG 0 0⟩ }
    {
    intro ρ w Γx Λx hs hu hp
    have e324 : ρ 84 = undef := (hp 30 rfl).1
    refine WL.pass (wanted_undef rfl rfl e324) rfl ?_
    exact WL.nil ⟨rfl, _, rfl, rfl, hs.cutG 0 0⟩ }
    {
    intro ρ w Γx Λx hs hu hp
    have e325 : ρ 84 = undef := (hp 30 rfl).1
    refine WL.pass (wanted_undef rfl rfl e325) rfl ?_
    exact WL.nil ⟨rfl, _, rfl, rfl, hs.cutG 0 0⟩ }
    {
    intro ρ w Γx Λx hs hu hp
    have e326 : ρ 85 = undef := (hp 31 rfl).1
    have e327 : ρ 86 = undef := (hp 32 rfl).1
    have e328 : ρ 84 = undef := (hp 30 rfl).1
    refine WL.pass (wanted_undef rfl rfl e328) rfl ?_
    exact WL.nil ⟨rfl, _, rfl, rfl, hs.cutG 0 0⟩ }
    {
    intro ρ w Γx Λx hs hu hp
    have e329 : ρ 87 = undef := (hp 33 rfl).1
    have e330 : ρ 84 = undef := (hp 30 rfl).1
    refine WL.pass (wanted_undef rfl rfl e330) rfl ?_
    exact WL.nil ⟨rfl, _, rfl, rfl, hs.cutG 0 0⟩ }
    {
    intro ρ w Γx Λx hs hu hp
    have e331 : ρ 88 = undef := (hp 34 rfl).1
    have e332 : ρ 84 = undef := (hp 30 rfl).1
    refine WL.pass (wanted_undef rfl rfl e332) rfl ?_
    exact WL.nil ⟨rfl, _, rfl, rfl, hs.cutG 0 0⟩ }
    {
    intro ρ w Γx Λx hs hu hp
    have e333 : ρ 84 = undef := (hp 30 rfl).1
    refine WL.pass (wanted_undef rfl rfl e333) rfl ?_
    exact WL.nil ⟨rfl, _, rfl, rfl, hs.cutG 0 0⟩ }
    {
    intro ρ w Γx Λx hs hu hp
    have e334 : ρ 84 = undef := (hp 30 rfl).1
    refine WL.pass (wanted_undef rfl rfl e334) rfl ?_
    exact WL.nil ⟨rfl, _, rfl, rfl, hs.cutG 0 0⟩ }
    {
    intro ρ w Γx Λx hs hu hp
    have e335 : ρ 90 = undef := (hp 36 rfl).1
    have e336 : ρ 91 = undef := (hp 37 rfl).1
    have e337 : ρ 84 = undef := (hp 30 rfl).1
    refine WL.pass (wanted_undef rfl rfl e337) rfl ?_
    exact WL.nil ⟨rfl, _, rfl, rfl, hs.cutG 0 0⟩ }
    {
    intro ρ w Γx Λx hs hu hp
    have e338 : ρ 92 = undef := (hp 38 rfl).1
    have e339 : ρ 84 = undef := (hp 30 rfl).1
    refine WL.pass (wanted_undef rfl rfl e339) rfl ?_
    exact WL.nil ⟨rfl, _, rfl, rfl, hs.cutG 0 0⟩ }
    {
    intro ρ w Γx Λx hs hu hp
    have e340 : ρ 93 = undef := (hp 39 rfl).1
    have e341 : ρ 84 = undef := (hp 30 rfl).1
    refine WL.pass (wanted_undef rfl rfl e341) rfl ?_
    exact WL.nil ⟨rfl, _, rfl, rfl, hs.cutG 0 0⟩ }
    {
    intro ρ w Γx Λx hs hu hp
    have e342 : ρ 89 = undef := (hp 35 rfl).1
    have e343 : ρ 94 = undef := (hp 40 rfl).1
    have e344 : ρ 84 = undef := (hp 30 rfl).1
    refine WL.pass (wanted_undef rfl rfl e344) rfl ?_
    exact WL.nil ⟨rfl, _, rfl, rfl, hs.cutG 0 0⟩ }
    {
    intro ρ w Γx Λx hs hu hp
    have e345 : ρ 84 = undef := (hp 30 rfl).1
    have e346 : ρ 95 = undef := (hp 41 rfl).1
    have e347 : ρ 72 = undef := (hp 18 rfl).1
    refine WL.pass (wanted_undef rfl rfl e347) rfl ?_
    exact WL.nil ⟨rfl, _, rfl, rfl, hs.cutG 0 0⟩ }
    {
    intro ρ w Γx Λx hs hu hp
    have e348 : ρ 72 = undef := (hp 18 rfl).1
    have e349 : ρ 96 = undef := (hp 42 rfl).1
    have e350 : ρ 65 = .bool (x260.Call == x264.Return) := (hp 11 rfl).1
    refine WL.pass ((wanted_of rfl rfl (bool_tr e350 hc268)).trans rfl) rfl ?_
    exact WL.nil ⟨rfl, _, rfl, rfl, hs.cutG 0 0⟩ }
    {
    intro ρ w Γx Λx hs hu hp
    have e351 : ρ 65 = .bool (x260.Call == x264.Return) := (hp 11 rfl).1
    have e352 : ρ 97 = undef := (hp 43 rfl).1
    refine WL.pickT (v := .bool true) (bool_tr e351 hc268) rfl ?_
    exact WL.nil ⟨rfl, _, rfl, rfl, hs.cutG 0 0⟩ }
    {
    intro ρ w hs hu353 hp
    obtain ⟨⟨⟨⟨⟨⟨⟨⟨⟨⟨⟨⟨⟨⟨⟨⟨⟨⟨⟨⟨⟨⟨⟨⟨⟨⟨⟨⟨⟨⟨⟨⟨⟨⟨⟨⟨⟨⟨⟨⟨⟨⟨⟨⟨⟨_, hp0_⟩, hp1_⟩, hp2_⟩, hp3_⟩, hp4_⟩, hp5_⟩, hp6_⟩, hp7_⟩, hp8_⟩, hp9_⟩, hp10_⟩, hp11_⟩, hp12_⟩, hp13_⟩, hp14_⟩, hp15_⟩, hp16_⟩, hp17_⟩, hp18_⟩, hp19_⟩, hp20_⟩, hp21_⟩, hp22_⟩, hp23_⟩, hp24_⟩, hp25_⟩, hp26_⟩, hp27_⟩, hp28_⟩, hp29_⟩, hp30_⟩, hp31_⟩, hp32_⟩, hp33_⟩, hp34_⟩, hp35_⟩, hp36_⟩, hp37_⟩, hp38_⟩, hp39_⟩, hp40_⟩, hp41_⟩, hp42_⟩, hp43_⟩, hp44_⟩ := hp
    have hs : St ok (bz w0) w [pl (tInt .i64) x264.Return (adOf (ρ 62)), pl t_history_Operation x264 (adOf (ρ 61)), pl (tInt .i64) x260.Call (adOf (ρ 57)), pl t_history_Operation x260 (adOf (ρ 56)), vl (tSlice t_history_Operation) x1.Operations (.slice a9 (x1.Operations).length c10)] [] := hs
    have e354 : ρ 98 = .bool true := hp44_
    have e355 : ρ 97 = undef := hp43_
    have e356 : ρ 96 = undef := hp42_
    have e357 : ρ 95 = undef := hp41_
    have e358 : ρ 94 = undef := hp40_
    have e359 : ρ 93 = undef := hp39_
    have e360 : ρ 92 = undef := hp38_
    have e361 : ρ 91 = undef := hp37_
    have e362 : ρ 90 = undef := hp36_
    have e363 : ρ 89 = undef := hp35_
    have e364 : ρ 88 = undef := hp34_
    have e365 : ρ 87 = undef := hp33_
    have e366 : ρ 86 = undef := hp32_
    have e367 : ρ 85 = undef := hp31_
    have e368 : ρ 84 = undef := hp30_
    have e369 : ρ 83 = undef := hp29_
    have e370 : ρ 82 = undef := hp28_
    have e371 : ρ 81 = undef := hp27_
    have e372 : ρ 80 = undef := hp26_
    have e373 : ρ 79 = undef := hp25_
    have e374 : ρ 78 = undef := hp24_
    have e375 : ρ 77 = undef := hp23_
    have e376 : ρ 76 = undef := hp22_
    have e377 : ρ 75 = undef := hp21_
    have e378 : ρ 74 = undef := hp20_
    have e379 : ρ 73 = undef := hp19_
    have e380 : ρ 72 = undef := hp18_
    have e381 : ρ 71 = undef := hp17_
    have e382 : ρ 70 = undef := hp16_
    have e383 : ρ 69 = undef := hp15_
    have e384 : ρ 68 = undef := hp14_
    have e385 : ρ 67 = undef := hp13_
    have e386 : ρ 66 = undef := hp12_
    have e387 : ρ 65 = .bool (x260.Call == x264.Return) := hp11_
    have e388 : ρ 64 = .bool (x260.Call == x264.Return) := hp10_
    have e389 : ρ 63 = .int .i64 x264.Return := hp9_
    obtain ⟨ad390, e391⟩ := hp8_
    have e391 : ρ 62 = .pointer (some ad390) := e391
    try rw [e391] at hs
    obtain ⟨ad392, e393⟩ := hp7_
    have e393 : ρ 61 = .pointer (some ad392) := e393
    try rw [e393] at hs
    have e394 : ρ 60 = .int .i64 x247 := hp6_
    have e395 : ρ 59 = .slice a9 (x1.Operations).length c10 := hp5_
    have e396 : ρ 58 = .int .i64 x260.Call := hp4_
    obtain ⟨ad397, e398⟩ := hp3_
    have e398 : ρ 57 = .pointer (some ad397) := e398
    try rw [e398] at hs
    obtain ⟨ad399, e400⟩ := hp2_
    have e400 : ρ 56 = .pointer (some ad399) := e400
    try rw [e400] at hs
    have e401 : ρ 55 = .int .i64 x17 := hp1_
    have e402 : ρ 54 = .slice a9 (x1.Operations).length c10 := hp0_
    refine WA.done (by kernel_rfl) ?_
    exact Jk256 true _ _ ((hu353 3 rfl).trans h246_3) ((hu353 4 rfl).trans h246_4) ((hu353 7 rfl).trans h246_7) e354 ((hs.mask []).pick [4]) hf } }
    {
    obtain ⟨x403, hxx403, hf⟩ := bindE hf
    rcases iteE hf with ⟨hc407, hf⟩ | ⟨hc407, hf⟩
    {
    obtain ⟨x408, hxx408, hf⟩ := bindE hf
    obtain ⟨x412, hxx412, hf⟩ := bindE hf
    rcases iteE hf with ⟨hc416, hf⟩ | ⟨hc416, hf⟩
    {
    refine W.any (by kernel_rfl) 45 0 [true, true, true, true, true, true, true, true, true, true, true, true, true, true, true, true, true, true, true, true, true, true, true, true, true, true, true, true, true, true, true, true, true, true, true, true, true, true, true, true, true, true, true, true, true] rfl rfl (poAt [pv (.slice a9 (x1.Operations).length c10), pv (.int .i64 x17), pq (fun y : Addr => .pointer (some y)) (fun v => [pl t_history_Operation x260 (adOf v)]) (fun v => []), pq (fun y : Addr => .pointer (some y)) (fun v => [pl (tInt .i64) x260.Call (adOf v)]) (fun v => []), pv (.int .i64 x260.Call), pv (.slice a9 (x1.Operations).length c10), pv (.int .i64 x247), pq (fun y : Addr => .pointer (some y)) (fun v => [pl t_history_Operation x264 (adOf v)]) (fun v => []), pq (fun y : Addr => .pointer (some y)) (fun v => [pl (tInt .i64) x264.Return (adOf v)]) (fun v => []), pv (.int .i64 x264.Return), pv (.bool (x260.Call == x264.Return)), pv (.bool (x260.Call == x264.Return)), pv (.slice a9 (x1.Operations).length c10), pv (.int .i64 x17), pq (fun y : Addr => .pointer (some y)) (fun v => [pl t_history_Operation x403 (adOf v)]) (fun v => []), pq (fun y : Addr => .pointer (some y)) (fun v => [pl (tInt .i64) x403.Return (adOf v)]) (fun v => []), pv (.int .i64 x403.Return), pv (.bool (x403.Return != 0)), pv (.bool (x403.Return != 0)), pv (.slice a9 (x1.Operations).length c10), pv (.int .i64 x17), pq (fun y : Addr => .pointer (some y)) (fun v => [pl t_history_Operation x408 (adOf v)]) (fun v => []), pq (fun y : Addr => .pointer (some y)) (fun v => [pl (tInt .i64) x408.Return (adOf v)]) (fun v => []), pv (.int .i64 x408.Return), pv (.slice a9 (x1.Operations).length c10), pv (.int .i64 x247), pq (fun y : Addr => .pointer (some y)) (fun v => [pl t_history_Operation x412 (adOf v)]) (fun v => []), pq (fun y : Addr => .pointer (some y)) (fun v => [pl (tInt .i64) x412.Call (adOf v)]) (fun v => []), pv (.int .i64 x412.Call), pv (.bool (x408.Return == x412.Call)), pv (.bool (x408.Return == x412.Call)), pv (undef), pv (undef), pv (undef), pv (undef), pv (undef), pv (undef), pv (undef), pv (undef), pv (undef), pv (undef), pv (undef), pv (.bool true), pv (.bool true), pv (.bool true)]) (Λ := []) hs (by kernel_rfl) (by kernel_rfl) (by kernel_rfl) ⟨⟨⟨⟨⟨⟨⟨⟨⟨⟨⟨⟨⟨⟨⟨⟨⟨⟨⟨⟨⟨⟨⟨⟨⟨⟨⟨⟨⟨⟨⟨⟨⟨⟨⟨⟨⟨⟨⟨⟨⟨⟨⟨⟨⟨trivial, ?_⟩, ?_⟩, ?_⟩, ?_⟩, ?_⟩, ?_⟩, ?_⟩, ?_⟩, ?_⟩, ?_⟩, ?_⟩, ?_⟩, ?_⟩, ?_⟩, ?_⟩, ?_⟩, ?_⟩, ?_⟩, ?_⟩, ?_⟩, ?_⟩, ?_⟩, ?_⟩, ?_⟩, ?_⟩, ?_⟩, ?_⟩, ?_⟩, ?_⟩, ?_⟩, ?_⟩, ?_⟩, ?_⟩, ?_⟩, ?_⟩, ?_⟩, ?_⟩, ?_⟩, ?_⟩, ?_⟩, ?_⟩, ?_⟩, ?_⟩, ?_⟩, ?_⟩ ?_
    {
    intro ρ w Γx Λx hs hu hp
    refine WL.move (v := .slice a9 (x1.Operations).length c10) ((hu 3 rfl).trans h246_3) ?_
    exact WL.nil ⟨rfl, _, rfl, rfl, hs.cutG 0 0⟩ }
    {
    intro ρ w Γx Λx hs hu hp
    refine WL.move (v := .int .i64 x17) ((hu 4 rfl).trans h246_4) ?_
    exact WL.nil ⟨rfl, _, rfl, rfl, hs.cutG 0 0⟩ }
    {
    intro ρ w Γx Λx hs hu hp
    have e417 : ρ 54 = .slice a9 (x1.Operations).length c10 := (hp 0 rfl).1
    have e418 : ρ 55 = .int .i64 x17 := (hp 1 rfl).1
    refine WL.indexAddr hs (Γx.length + 0) (getApp rfl) UN22 TI35 e417 e418 hxx260 (fun ad261 hs => ?_)
    have hs := hs.add (it := pl t_history_Operation x260 ad261) fun ok hA => hA.get 0 rfl
    exact WL.nil ⟨rfl, _, rfl, ⟨ad261, rfl⟩, hs.cutG 1 1⟩ }
    {
    intro ρ w Γx Λx hs hu hp
    obtain ⟨⟨ad419, e420r⟩, hm421⟩ := hp 2 rfl
    have e420 : ρ 56 = .pointer (some ad419) := e420r
    rw [e420r] at hm421
    have hs := hs.memo1 (it := pl t_history_Operation x260 ad419) (List.mem_append.2 (.inl (hm421 _ (List.mem_of_getElem? (i := 0) rfl))))
    refine WL.fieldAddrP (z := x260.Call) F_history_Operation_Call hs 0 rfl e420 FA35_4 rfl (fun ad262 hs => ?_)
    have hs := hs.add (it := pl (tInt .i64) x260.Call ad262) fun ok hA => hA.get 0 rfl
    exact WL.nil ⟨rfl, _, rfl, ⟨ad262, rfl⟩, hs.cutG 1 2⟩ }
    {
    intro ρ w Γx Λx hs hu hp
    obtain ⟨⟨ad422, e423r⟩, hm424⟩ := hp 3 rfl
    have e423 : ρ 57 = .pointer (some ad422) := e423r
    rw [e423r] at hm424
    have hs := hs.memo1 (it := pl (tInt .i64) x260.Call ad422) (List.mem_append.2 (.inl (hm424 _ (List.mem_of_getElem? (i := 0) rfl))))
    refine WL.loadP hs 0 rfl TI3 (.inr rfl) e423 (fun v263 hs => ?_)
    obtain rfl := hs.int 0 rfl
    exact WL.nil ⟨rfl, _, rfl, rfl, hs.cutG 0 2⟩ }
    {
    intro ρ w Γx Λx hs hu hp
    refine WL.move (v := .slice a9 (x1.Operations).length c10) ((hu 3 rfl).trans h246_3) ?_
    exact WL.nil ⟨rfl, _, rfl, rfl, hs.cutG 0 0⟩ }
    {
    intro ρ w Γx Λx hs hu hp
    refine WL.move (v := .int .i64 x247) ((hu 7 rfl).trans h246_7) ?_
    exact WL.nil ⟨rfl, _, rfl, rfl, hs.cutG 0 0⟩ }
    {
    intro ρ w Γx Λx hs hu hp
    have e425 : ρ 59 = .slice a9 (x1.Operations).length c10 := (hp 5 rfl).1
    have e426 : ρ 60 = .int .i64 x247 := (hp 6 rfl).1
    refine WL.indexAddr hs (Γx.length + 0) (getApp rfl) UN22 TI35 e425 e426 hxx264 (fun ad265 hs => ?_)
    have hs := hs.add (it := pl t_history_Operation x264 ad265) fun ok hA => hA.get 0 rfl
    exact WL.nil ⟨rfl, _, rfl, ⟨ad265, rfl⟩, hs.cutG 1 1⟩ }
    {
    intro ρ w Γx Λx hs hu hp
    obtain ⟨⟨ad427, e428r⟩, hm429⟩ := hp 7 rfl
    have e428 : ρ 61 = .pointer (some ad427) := e428r
    rw [e428r] at hm429
    have hs := hs.memo1 (it := pl t_history_Operation x264 ad427) (List.mem_append.2 (.inl (hm429 _ (List.mem_of_getElem? (i := 0) rfl))))
    refine WL.fieldAddrP (z := x264.Return) F_history_Operation_Return hs 0 rfl e428 FA35_5 rfl (fun ad266 hs => ?_)
    have hs := hs.add (it := pl (tInt .i64) x264.Return ad266) fun ok hA => hA.get 0 rfl
    exact WL.nil ⟨rfl, _, rfl, ⟨ad266, rfl⟩, hs.cutG 1 2⟩ }
    {
    intro ρ w Γx Λx hs hu hp
    obtain ⟨⟨ad430, e431r⟩, hm432⟩ := hp 8 rfl
    have e431 : ρ 62 = .pointer (some ad430) := e431r
    rw [e431r] at hm432
    have hs := hs.memo1 (it := pl (tInt .i64) x264.Return ad430) (List.mem_append.2 (.inl (hm432 _ (List.mem_of_getElem? (i := 0) rfl))))
    refine WL.loadP hs 0 rfl TI3 (.inr rfl) e431 (fun v267 hs => ?_)
    obtain rfl := hs.int 0 rfl
    exact WL.nil ⟨rfl, _, rfl, rfl, hs.cutG 0 2⟩ }
    {
    intro ρ w Γx Λx hs hu hp
    have e433 : ρ 58 = .int .i64 x260.Call := (hp 4 rfl).1
    have e434 : ρ 63 = .int .i64 x264.Return := (hp 9 rfl).1
    refine WL.bin (v := .bool (x260.Call == x264.Return)) e433 e434 (ib_eql _ _ _) ?_
    exact WL.nil ⟨rfl, _, rfl, rfl, hs.cutG 0 0⟩ }
    {
    intro ρ w Γx Λx hs hu hp
    have e435 : ρ 64 = .bool (x260.Call == x264.Return) := (hp 10 rfl).1
    refine WL.move (v := .bool (x260.Call == x264.Return)) e435 ?_
    exact WL.nil ⟨rfl, _, rfl, rfl, hs.cutG 0 0⟩ }
    {
    intro ρ w Γx Λx hs hu hp
    have e436 : ρ 65 = .bool (x260.Call == x264.Return) := (hp 11 rfl).1
    refine WL.move (v := .slice a9 (x1.Operations).length c10) ((hu 3 rfl).trans h246_3) ?_ (hg := (wanted_of rfl rfl (bool_tr e436 hc268)).trans rfl)
    exact WL.nil ⟨rfl, _, rfl, rfl, hs.cutG 0 0⟩ }
    {
    intro ρ w Γx Λx hs hu hp
    have e437 : ρ 65 = .bool (x260.Call == x264.Return) := (hp 11 rfl).1
    refine WL.move (v := .int .i64 x17) ((hu 4 rfl).trans h246_4) ?_ (hg := (wanted_of rfl rfl (bool_tr e437 hc268)).trans rfl)
    exact WL.nil ⟨rfl, _, rfl, rfl, hs.cutG 0 0⟩ }
    {
    intro ρ w Γx Λx hs hu hp
    have e438 : ρ 66 = .slice a9 (x1.Operations).length c10 := (hp 12 rfl).1
    have e439 : ρ 67 = .int .i64 x17 := (hp 13 rfl).1
    have e440 : ρ 65 = .bool (x260.Call == x264.Return) := (hp 11 rfl).1
    refine WL.indexAddr hs (Γx.length + 0) (getApp rfl) UN22 TI35 e438 e439 hxx403 (fun ad404 hs => ?_) (hg := (wanted_of rfl rfl (bool_tr e440 hc268)).trans rfl)
    have hs := hs.add (it := pl t_history_Operation x403 ad404) fun ok hA => hA.get 0 rfl
    exact WL.nil ⟨rfl, _, rfl, ⟨ad404, rfl⟩, hs.cutG 1 1⟩ }
    {
    intro ρ w Γx Λx hs hu hp
    obtain ⟨⟨ad441, e442r⟩, hm443⟩ := hp 14 rfl
    have e442 : ρ 68 = .pointer (some ad441) := e442r
    rw [e442r] at hm443
    have hs := hs.memo1 (it := pl t_history_Operation x403 ad441) (List.mem_append.2 (.inl (hm443 _ (List.mem_of_getElem? (i := 0) rfl))))
    have e444 : ρ 65 = .bool (x260.Call == x264.Return) := (hp 11 rfl).1
    refine WL.fieldAddrP (z := x403.Return) F_history_Operation_Return hs 0 rfl e442 FA35_5 rfl (fun ad405 hs => ?_) (hg := (wanted_of rfl rfl (bool_tr e444 hc268)).trans rfl)
    have hs := hs.add (it := pl (tInt .i64) x403.Return ad405) fun ok hA => hA.get 0 rfl
    exact WL.nil ⟨rfl, _, rfl, ⟨ad405, rfl⟩, hs.cutG 1 2⟩ }
    {
    intro ρ w Γx Λx hs hu hp
    obtain ⟨⟨ad445, e446r⟩, hm447⟩ := hp 15 rfl
    have e446 : ρ 69 = .pointer (some ad445) := e446r
    rw [e446r] at hm447
    have hs := hs.memo1 (it := pl (tInt .i64) x403.Return ad445) (List.mem_append.2 (.inl (hm447 _ (List.mem_of_getElem? (i := 0) rfl))))
    have e448 : ρ 65 = .bool (x260.Call == x264.Return) := (hp 11 rfl).1
    refine WL.loadP hs 0 rfl TI3 (.inr rfl) e446 (fun v406 hs => ?_) (hg := (wanted_of rfl rfl (bool_tr e448 hc268)).trans rfl)
    obtain rfl := hs.int 0 rfl
    exact WL.nil ⟨rfl, _, rfl, rfl, hs.cutG 0 2⟩ }
    {
    intro ρ w Γx Λx hs hu hp
    have e449 : ρ 70 = .int .i64 x403.Return := (hp 16 rfl).1
    have e450 : ρ 65 = .bool (x260.Call == x264.Return) := (hp 11 rfl).1
    refine WL.bin (v := .bool (x403.Return != 0)) e449 rfl (ib_neq _ _ _) ?_ (hg := (wanted_of rfl rfl (bool_tr e450 hc268)).trans rfl)
    exact WL.nil ⟨rfl, _, rfl, rfl, hs.cutG 0 0⟩ }
    {
    intro ρ w Γx Λx hs hu hp
    have e451 : ρ 71 = .bool (x403.Return != 0) := (hp 17 rfl).1
    have e452 : ρ 65 = .bool (x260.Call == x264.Return) := (hp 11 rfl).1
    refine WL.move (v := .bool (x403.Return != 0)) e451 ?_ (hg := (wanted_of rfl rfl (bool_tr e452 hc268)).trans rfl)
    exact WL.nil ⟨rfl, _, rfl, rfl, hs.cutG 0 0⟩ }
    {
    intro ρ w Γx Λx hs hu hp
    have e453 : ρ 72 = .bool (x403.Return != 0) := (hp 18 rfl).1
    refine WL.move (v := .slice a9 (x1.Operations).length c10) ((hu 3 rfl).trans h246_3) ?_ (hg := (wanted_of rfl rfl (bool_tr e453 hc407)).trans rfl)
    exact WL.nil ⟨rfl, _, rfl, rfl, hs.cutG 0 0⟩ }
    {
    intro ρ w Γx Λx hs hu hp
    have e454 : ρ 72 = .bool (x403.Return != 0) := (hp 18 rfl).1
    refine WL.move (v := .int .i64 x17) ((hu 4 rfl).trans h246_4) ?_ (hg := (wanted_of rfl rfl (bool_tr e454 hc407)).trans rfl)
    exact WL.nil ⟨rfl, _, rfl, rfl, hs.cutG 0 0⟩ }
    {
    intro ρ w Γx Λx hs hu hp
    have e455 : ρ 73 = .slice a9 (x1.Operations).length c10 := (hp 19 rfl).1
    have e456 : ρ 74 = .int .i64 x17 := (hp 20 rfl).1
    have e457 : ρ 72 = .bool (x403.Return != 0) := (hp 18 rfl).1
    refine WL.indexAddr hs (Γx.length + 0) (getApp rfl) UN22 TI35 e455 e456 hxx408 (fun ad409 hs => ?_) (hg := (wanted_of rfl rfl (bool_tr e457 hc407)).trans rfl)
    have hs := hs.add (it := pl t_history_Operation x408 ad409) fun ok hA => hA.get 0 rfl
    exact WL.nil ⟨rfl, _, rfl, ⟨ad409, rfl⟩, hs.cutG 1 1⟩ }
    {
    intro ρ w Γx Λx hs hu hp
    obtain ⟨⟨ad458, e459r⟩, hm460⟩ := hp 21 rfl
    have e459 : ρ 75 = .pointer (some ad458) := e459r
    rw [e459r] at hm460
    have hs := hs.memo1 (it := pl t_history_Operation x408 ad458) (List.mem_append.2 (.inl (hm460 _ (List.mem_of_getElem? (i := 0) rfl))))
    have e461 : ρ 72 = .bool (x403.Return != 0) := (hp 18 rfl).1
    refine WL.fieldAddrP (z := x408.Return) F_history_Operation_Return hs 0 rfl e459 FA35_5 rfl (fun ad410 hs => ?_) (hg := (wanted_of rfl rfl (bool_tr e461 hc407)).trans rfl)
    have hs := hs.add (it := pl (tInt .i64) x408.Return ad410) fun ok hA => hA.get 0 rfl
    exact WL.nil ⟨rfl, _, rfl, ⟨ad410, rfl⟩, hs.cutG 1 2⟩ }
    {
    intro ρ w Γx Λx hs hu hp
    obtain ⟨⟨ad462, e463r⟩, hm464⟩ := hp 22 rfl
    have e463 : ρ 76 = .pointer (some ad462) := e463r
    rw [e463r] at hm464
    have hs := hs.memo1 (it := pl (tInt .i64) x408.Return ad462) (List.mem_append.2 (.inl (hm464 _ (List.mem_of_getElem? (i := 0) rfl))))
    have e465 : ρ 72 = .bool (x403.Return != 0) := (hp 18 rfl).1
    refine WL.loadP hs 0 rfl TI3 (.inr rfl) e463 (fun v411 hs => ?_) (hg := (wanted_of rfl rfl (bool_tr e465 hc407)).trans rfl)
    obtain rfl := hs.int 0 rfl
    exact WL.nil ⟨rfl, _, rfl, rfl, hs.cutG 0 2⟩ }
    {
    intro ρ w Γx Λx hs hu hp
    have e466 : ρ 72 = .bool (x403.Return != 0) := (hp 18 rfl).1
    refine WL.move (v := .slice a9 (x1.Operations).length c10) ((hu 3 rfl).trans h246_3) ?_ (hg := (wanted_of rfl rfl (bool_tr e466 hc407)).trans rfl)
    exact WL.nil ⟨rfl, _, rfl, rfl, hs.cutG 0 0⟩ }
    {
    intro ρ w Γx Λx hs hu hp
    have e467 : ρ 72 = .bool (x403.Return != 0) := (hp 18 rfl).1
    refine WL.move (v := .int .i64 x247) ((hu 7 rfl).trans h246_7) ?_ (hg := (wanted_of rfl rfl (bool_tr e467 hc407)).trans rfl)
    exact WL.nil ⟨rfl, _, rfl, rfl, hs.cutG 0 0⟩ }
    {
    intro ρ w Γx Λx hs hu hp
    have e468 : ρ 78 = .slice a9 (x1.Operations).length c10 := (hp 24 rfl).1
    have e469 : ρ 79 = .int .i64 x247 := (hp 25 rfl).1
    have e470 : ρ 72 = .bool (x403.Return != 0) := (hp 18 rfl).1
    refine WL.indexAddr hs (Γx.length + 0) (getApp rfl) UN22 TI35 e468 e469 hxx412 (fun ad413 hs => ?_) (hg := (wanted_of rfl rfl (bool_tr e470 hc407)).trans rfl)
    have hs := hs.add (it := pl t_history_Operation x412 ad413) fun ok hA => hA.get 0 rfl
    exact WL.nil ⟨rfl, _, rfl, ⟨ad413, rfl⟩, hs.cutG 1 1⟩ }
    {
    intro ρ w Γx Λx hs hu hp
    obtain ⟨⟨ad471, e472r⟩, hm473⟩ := hp 26 rfl
    have e472 : ρ 80 = .pointer (some ad471) := e472r
    rw [e472r] at hm473
    have hs := hs.memo1 (it := pl t_history_Operation x412 ad471) (List.mem_append.2 (.inl (hm473 _ (List.mem_of_getElem? (i := 0) rfl))))
    have e474 : ρ 72 = .bool (x403.Return != 0) := (hp 18 rfl).1
    refine WL.fieldAddrP (z := x412.Call) F_history_Operation_Call hs 0 rfl e472 FA35_4 rfl (fun ad414 hs => ?_) (hg := (wanted_of rfl rfl (bool_tr e474 hc407)).trans rfl)
    have hs := hs.add (it := pl (tInt .i64) x412.Call ad414) fun ok hA => hA.get 0 rfl
    exact WL.nil ⟨rfl, _, rfl, ⟨ad414, rfl⟩, hs.cutG 1 2⟩ }
    {
    intro ρ w Γx Λx hs hu hp
    obtain ⟨⟨ad475, e476r⟩, hm477⟩ := hp 27 rfl
    have e476 : ρ 81 = .pointer (some ad475) := e476r
    rw [e476r] at hm477
    have hs := hs.memo1 (it := pl (tInt .i64) x412.Call ad475) (List.mem_append.2 (.inl (hm477 _ (List.mem_of_getElem? (i := 0) rfl))))
    have e478 : ρ 72 = .bool (x403.Return != 0) := (hp 18 rfl).1
    refine WL.loadP hs 0 rfl TI3 (.inr rfl) e476 (fun v415 hs => ?_) (hg := (wanted_of rfl rfl (bool_tr e478 hc407)).trans rfl)
    obtain rfl := hs.int 0 rfl
    exact WL.nil ⟨rfl, _, rfl, rfl, hs.cutG 0 2⟩ }
    {
    intro ρ w Γx Λx hs hu hp
    have e479 : ρ 77 = .int .i64 x408.Return := (hp 23 rfl).1
    have e480 : ρ 82 = .int .i64 x412.Call := (hp 28 rfl).1
    have e481 : ρ 72 = .bool (x403.Return != 0) := (hp 18 rfl).1
    refine WL.bin (v := .bool (x408.Return == x412.Call)) e479 e480 (ib_eql _ _ _) ?_ (hg := (wanted_of rfl rfl (bool_tr e481 hc407)).trans rfl)
    exact WL.nil ⟨rfl, _, rfl, rfl, hs.cutG 0 0⟩ }
    {
    intro ρ w Γx Λx hs hu hp
    have e482 : ρ 83 = .bool (x408.Return == x412.Call) := (hp 29 rfl).1
    have e483 : ρ 72 = .bool (x403.Return != 0) := (hp 18 rfl).1
    refine WL.move (v := .bool (x408.Return == x412.Call)) e482 ?_ (hg := (wanted_of rfl rfl (bool_tr e483 hc407)).trans rfl)
    exact WL.nil ⟨rfl, _, rfl, rfl, hs.cutG 0 0⟩ }
    {
    intro ρ w Γx Λx hs hu hp
    have e484 : ρ 84 = .bool (x408.Return == x412.Call) := (hp 30 rfl).1
    refine WL.pass ((wanted_of rfl rfl (bool_tr e484 hc416)).trans rfl) rfl ?_
    exact WL.nil ⟨rfl, _, rfl, rfl, hs.cutG 0 0⟩ }
    {
    intro ρ w Γx Λx hs hu hp
    have e485 : ρ 84 = .bool (x408.Return == x412.Call) := (hp 30 rfl).1
    refine WL.pass ((wanted_of rfl rfl (bool_tr e485 hc416)).trans rfl) rfl ?_
    exact WL.nil ⟨rfl, _, rfl, rfl, hs.cutG 0 0⟩ }
    {
    intro ρ w Γx Λx hs hu hp
    have e486 : ρ 85 = undef := (hp 31 rfl).1
    have e487 : ρ 86 = undef := (hp 32 rfl).1
    have e488 : ρ 84 = .bool (x408.Return == x412.Call) := (hp 30 rfl).1
    refine WL.pass ((wanted_of rfl rfl (bool_tr e488 hc416)).trans rfl) rfl ?_
    exact WL.nil ⟨rfl, _, rfl, rfl, hs.cutG 0 0⟩ }
    {
    intro ρ w Γx Λx hs hu hp
    have e489 : ρ 87 = undef := (hp 33 rfl).1
    have e490 : ρ 84 = .bool (x408.Return == x412.Call) := (hp 30 rfl).1
    refine WL.pass ((wanted_of rfl rfl (bool_tr e490 hc416)).trans rfl) rfl ?_
    exact WL.nil ⟨rfl, _, rfl, rfl, hs.cutG 0 0⟩ }
    {
    intro ρ w Γx Λx hs hu hp
    have e491 : ρ 88 = undef := (hp 34 rfl).1
    have e492 : ρ 84 = .bool (x408.Return == x412.Call) := (hp 30 rfl).1
    refine WL.pass ((wanted_of rfl rfl (bool_tr e492 hc416)).trans rfl) rfl ?_
    exact WL.nil ⟨rfl, _, rfl, rfl, hs.cutG 0 0⟩ }
    {
    intro ρ w Γx Λx hs hu hp
    have e493 : ρ 84 = .bool (x408.Return == x412.Call) := (hp 30 rfl).1
    refine WL.pass ((wanted_of rfl rfl (bool_tr e493 hc416)).trans rfl) rfl ?_
    exact WL.nil ⟨rfl, _, rfl, rfl, hs.cutG 0 0⟩ }
    {
    intro ρ w Γx Λx hs hu hp
    have e494 : ρ 84 = .bool (x408.Return == x412.Call) := (hp 30 rfl).1
    refine WL.pass ((wanted_of rfl rfl (bool_tr e494 hc416)).trans rfl) rfl ?_
    exact WL.nil ⟨rfl, _, rfl, rfl, hs.cutG 0 0⟩ }
    {
    intro ρ w Γx Λx hs hu hp
    have e495 : ρ 90 = undef := (hp 36 rfl).1
    have e496 : ρ 91 = undef := (hp 37 rfl).1
    have e497 : ρ 84 = .bool (x408.Return == x412.Call) := (hp 30 rfl).1
    refine WL.pass ((wanted_of rfl rfl (bool_tr e497 hc416)).trans rfl) rfl ?_
    exact WL.nil ⟨rfl, _, rfl, rfl, hs.cutG 0 0⟩ }
    {
    intro ρ w Γx Λx hs hu hp
    have e498 : ρ 92 = undef := (hp 38 rfl).1
    have e499 : ρ 84 = .bool (x408.Return == x412.Call) := (hp 30 rfl).1
    refine WL.pass ((wanted_of rfl rfl (bool_tr e499 hc416)).trans rfl) rfl ?_
    exact WL.nil ⟨rfl, _, rfl, rfl, hs.cutG 0 0⟩ }
    {
    intro ρ w Γx Λx hs hu hp
    have e500 : ρ 93 = undef := (hp 39 rfl).1
    have e501 : ρ 84 = .bool (x408.Return == x412.Call) := (hp 30 rfl).1
    refine WL.pass ((wanted_of rfl rfl (bool_tr e501 hc416)).trans rfl) rfl ?_
    exact WL.nil ⟨rfl, _, rfl, rfl, hs.cutG 0 0⟩ }
    {
    intro ρ w Γx Λx hs hu hp
    have e502 : ρ 89 = undef := (hp 35 rfl).1
    have e503 : ρ 94 = undef := (hp 40 rfl).1
    have e504 : ρ 84 = .bool (x408.Return == x412.Call) := (hp 30 rfl).1
    refine WL.pass ((wanted_of rfl rfl (bool_tr e504 hc416)).trans rfl) rfl ?_
    exact WL.nil ⟨rfl, _, rfl, rfl, hs.cutG 0 0⟩ }
    {
    intro ρ w Γx Λx hs hu hp
    have e505 : ρ 84 = .bool (x408.Return == x412.Call) := (hp 30 rfl).1
    have e506 : ρ 95 = undef := (hp 41 rfl).1
    have e507 : ρ 72 = .bool (x403.Return != 0) := (hp 18 rfl).1
    refine WL.pickT (v := .bool true) (bool_tr e505 hc416) rfl ?_ (hg := (wanted_of rfl rfl (bool_tr e507 hc407)).trans rfl)
    exact WL.nil ⟨rfl, _, rfl, rfl, hs.cutG 0 0⟩ }
    {
    intro ρ w Γx Λx hs hu hp
    have e508 : ρ 72 = .bool (x403.Return != 0) := (hp 18 rfl).1
    have e509 : ρ 96 = .bool true := (hp 42 rfl).1
    have e510 : ρ 65 = .bool (x260.Call == x264.Return) := (hp 11 rfl).1
    refine WL.pickT (v := .bool true) (bool_tr e508 hc407) e509 ?_ (hg := (wanted_of rfl rfl (bool_tr e510 hc268)).trans rfl)
    exact WL.nil ⟨rfl, _, rfl, rfl, hs.cutG 0 0⟩ }
    {
    intro ρ w Γx Λx hs hu hp
    have e511 : ρ 65 = .bool (x260.Call == x264.Return) := (hp 11 rfl).1
    have e512 : ρ 97 = .bool true := (hp 43 rfl).1
    refine WL.pickF (v := .bool true) (bool_tr e511 hc268) e512 ?_
    exact WL.nil ⟨rfl, _, rfl, rfl, hs.cutG 0 0⟩ }
    {
    intro ρ w hs hu513 hp
    obtain ⟨⟨⟨⟨⟨⟨⟨⟨⟨⟨⟨⟨⟨⟨⟨⟨⟨⟨⟨⟨⟨⟨⟨⟨⟨⟨⟨⟨⟨⟨⟨⟨⟨⟨⟨⟨⟨⟨⟨⟨⟨⟨⟨⟨⟨_, hp0_⟩, hp1_⟩, hp2_⟩, hp3_⟩, hp4_⟩, hp5_⟩, hp6_⟩, hp7_⟩, hp8_⟩, hp9_⟩, hp10_⟩, hp11_⟩, hp12_⟩, hp13_⟩, hp14_⟩, hp15_⟩, hp16_⟩, hp17_⟩, hp18_⟩, hp19_⟩, hp20_⟩, hp21_⟩, hp22_⟩, hp23_⟩, hp24_⟩, hp25_⟩, hp26_⟩, hp27_⟩, hp28_⟩, hp29_⟩, hp30_⟩, hp31_⟩, hp32_⟩, hp33_⟩, hp34_⟩, hp35_⟩, hp36_⟩, hp37_⟩, hp38_⟩, hp39_⟩, hp40_⟩, hp41_⟩, hp42_⟩, hp43_⟩, hp44_⟩ := hp
    have hs : St ok (bz w0) w [pl (tInt .i64) x412.Call (adOf (ρ 81)), pl t_history_Operation x412 (adOf (ρ 80)), pl (tInt .i64) x408.Return (adOf (ρ 76)), pl t_history_Operation x408 (adOf (ρ 75)), pl (tInt .i64) x403.Return (adOf (ρ 69)), pl t_history_Operation x403 (adOf (ρ 68)), pl (tInt .i64) x264.Return (adOf (ρ 62)), pl t_history_Operation x264 (adOf (ρ 61)), pl (tInt .i64) x260.Call (adOf (ρ 57)), pl t_history_Operation x260 (adOf (ρ 56)), vl (tSlice t_history_Operation) x1.Operations (.slice a9 (x1.Operations).length c10)] [] := hs
    have e514 : ρ 98 = .bool true := hp44_
    have e515 : ρ 97 = .bool true := hp43_
    have e516 : ρ 96 = .bool true := hp42_
    have e517 : ρ 95 = undef := hp41_
    have e518 : ρ 94 = undef := hp40_
    have e519 : ρ 93 = undef := hp39_
    have e520 : ρ 92 = undef := hp38_
    have e521 : ρ 91 = undef := hp37_
    have e522 : ρ 90 = undef := hp36_
    have e523 : ρ 89 = undef := hp35_
    have e524 : ρ 88 = undef := hp34_
    have e525 : ρ 87 = undef := hp33_
    have e526 : ρ 86 = undef := hp32_
    have e527 : ρ 85 = undef := hp31_
    have e528 : ρ 84 = .bool (x408.Return == x412.Call) := hp30_
    have e529 : ρ 83 = .bool (x408.Return == x412.Call) := hp29_
    have e530 : ρ 82 = .int .i64 x412.Call := hp28_
    obtain ⟨ad531, e532⟩ := hp27_
    have e532 : ρ 81 = .pointer (some ad531) := e532
    try rw [e532] at hs
    obtain ⟨ad533, e534⟩ := hp26_
    have e534 : ρ 80 = .pointer (some ad533) := e534
    try rw [e534] at hs
    have e535 : ρ 79 = .int .i64 x247 := hp25_
    have e536 : ρ 78 = .slice a9 (x1.Operations).length c10 := hp24_
    have e537 : ρ 77 = .int .i64 x408.Return := hp23_
    obtain ⟨ad538, e539⟩ := hp22_
    have e539 : ρ 76 = .pointer (some ad538) := e539
    try rw [e539] at hs
    obtain ⟨ad540, e541⟩ := hp21_
    have e541 : ρ 75 = .pointer (some ad540) := e541
    try rw [e541] at hs
    have e542 : ρ 74 = .int .i64 x17 := hp20_
    have e543 : ρ 73 = .slice a9 (x1.Operations).length c10 := hp19_
    have e544 : ρ 72 = .bool (x403.Return != 0) := hp18_
    have e545 : ρ 71 = .bool (x403.Return != 0) := hp17_
    have e546 : ρ 70 = .int .i64 x403.Return := hp16_
    obtain ⟨ad547, e548⟩ := hp15_
    have e548 : ρ 69 = .pointer (some ad547) := e548
    try rw [e548] at hs
    obtain ⟨ad549, e550⟩ := hp14_
    have e550 : ρ 68 = .pointer (some ad549) := e550
    try rw [e550] at hs
    have e551 : ρ 67 = .int .i64 x17 := hp13_
    have e552 : ρ 66 = .slice a9 (x1.Operations).length c10 := hp12_
    have e553 : ρ 65 = .bool (x260.Call == x264.Return) := hp11_
    have e554 : ρ 64 = .bool (x260.Call == x264.Return) := hp10_
    have e555 : ρ 63 = .int .i64 x264.Return := hp9_
    obtain ⟨ad556, e557⟩ := hp8_
    have e557 : ρ 62 = .pointer (some ad556) := e557
    try rw [e557] at hs
    obtain ⟨ad558, e559⟩ := hp7_
    have e559 : ρ 61 = .pointer (some ad558) := e559
    try rw [e559] at hs
    have e560 : ρ 60 = .int .i64 x247 := hp6_
    have e561 : ρ 59 = .slice a9 (x1.Operations).length c10 := hp5_
    have e562 : ρ 58 = .int .i64 x260.Call := hp4_
    obtain ⟨ad563, e564⟩ := hp3_
    have e564 : ρ 57 = .pointer (some ad563) := e564
    try rw [e564] at hs
    obtain ⟨ad565, e566⟩ := hp2_
    have e566 : ρ 56 = .pointer (some ad565) := e566
    try rw [e566] at hs
    have e567 : ρ 55 = .int .i64 x17 := hp1_
    have e568 : ρ 54 = .slice a9 (x1.Operations).length c10 := hp0_
    refine WA.done (by kernel_rfl) ?_
    exact Jk256 true _ _ ((hu513 3 rfl).trans h246_3) ((hu513 4 rfl).trans h246_4) ((hu513 7 rfl).trans h246_7) e514 ((hs.mask []).pick [10]) hf } }
    {
    obtain ⟨x569, hxx569, hf⟩ := bindE hf
    obtain ⟨x573, hxx573, hf⟩ := bindE hf
    refine W.any (by kernel_rfl) 45 0 [true, true, true, true, true, true, true, true, true, true, true, true, true, true, true, true, true, true, true, true, true, true, true, true, true, true, true, true, true, true, true, true, true, true, true, true, true, true, true, true, true, true, true, true, true] rfl rfl (poAt [pv (.slice a9 (x1.Operations).length c10), pv (.int .i64 x17), pq (fun y : Addr => .pointer (some y)) (fun v => [pl t_history_Operation x260 (adOf v)]) (fun v => []), pq (fun y : Addr => .pointer (some y)) (fun v => [pl (tInt .i64) x260.Call (adOf v)]) (fun v => []), pv (.int .i64 x260.Call), pv (.slice a9 (x1.Operations).length c10), pv (.int .i64 x247), pq (fun y : Addr => .pointer (some y)) (fun v => [pl t_history_Operation x264 (adOf v)]) (fun v => []), pq (fun y : Addr => .pointer (some y)) (fun v => [pl (tInt .i64) x264.Return (adOf v)]) (fun v => []), pv (.int .i64 x264.Return), pv (.bool (x260.Call == x264.Return)), pv (.bool (x260.Call == x264.Return)), pv (.slice a9 (x1.Operations).length c10), pv (.int .i64 x17), pq (fun y : Addr => .pointer (some y)) (fun v => [pl t_history_Operation x403 (adOf v)]) (fun v => []), pq (fun y : Addr => .pointer (some y)) (fun v => [pl (tInt .i64) x403.Return (adOf v)]) (fun v => []), pv (.int .i64 x403.Return), pv (.bool (x403.Return != 0)), pv (.bool (x403.Return != 0)), pv (.slice a9 (x1.Operations).length c10), pv (.int .i64 x17), pq (fun y : Addr => .pointer (some y)) (fun v => [pl t_history_Operation x408 (adOf v)]) (fun v => []), pq (fun y : Addr => .pointer (some y)) (fun v => [pl (tInt .i64) x408.Return (adOf v)]) (fun v => []), pv (.int .i64 x408.Return), pv (.slice a9 (x1.Operations).length c10), pv (.int .i64 x247), pq (fun y : Addr => .pointer (some y)) (fun v => [pl t_history_Operation x412 (adOf v)]) (fun v => []), pq (fun y : Addr => .pointer (some y)) (fun v => [pl (tInt .i64) x412.Call (adOf v)]) (fun v => []), pv (.int .i64 x412.Call), pv (.bool (x408.Return == x412.Call)), pv (.bool (x408.Return == x412.Call)), pv (.slice a9 (x1.Operations).length c10), pv (.int .i64 x17), pq (fun y : Addr => .pointer (some y)) (fun v => [pl t_history_Operation x569 (adOf v)]) (fun v => []), pq (fun y : Addr => .pointer (some y)) (fun v => [pl (tInt .i64) x569.Return (adOf v)]) (fun v => []), pv (.int .i64 x569.Return), pv (.slice a9 (x1.Operations).length c10), pv (.int .i64 x247), pq (fun y : Addr => .pointer (some y)) (fun v => [pl t_history_Operation x573 (adOf v)]) (fun v => []), pq (fun y : Addr => .pointer (some y)) (fun v => [pl (tInt .i64) x573.Return (adOf v)]) (fun v => []), pv (.int .i64 x573.Return), pv (.bool (x569.Return == x573.Return)), pv (.bool (x569.Return == x573.Return)), pv (.bool (x569.Return == x573.Return)), pv (.bool (x569.Return == x573.Return))]) (Λ := []) hs (by kernel_rfl) (by kernel_rfl) (by kernel_rfl) ⟨⟨⟨⟨⟨⟨⟨⟨⟨⟨⟨⟨⟨⟨⟨⟨⟨⟨⟨⟨⟨⟨⟨⟨⟨⟨⟨⟨⟨⟨⟨⟨⟨⟨⟨⟨⟨⟨⟨⟨⟨⟨⟨⟨⟨trivial, ?_⟩, ?_⟩, ?_⟩, ?_⟩, ?_⟩, ?_⟩, ?_⟩, ?_⟩, ?_⟩, ?_⟩, ?_⟩, ?_⟩, ?_⟩, ?_⟩, ?_⟩, ?_⟩, ?_⟩, ?_⟩, ?_⟩, ?_⟩, ?_⟩, ?_⟩, ?_⟩, ?_⟩, ?_⟩, ?_⟩, ?_⟩, ?_⟩, ?_⟩, ?_⟩, ?_⟩, ?_⟩, ?_⟩, ?_⟩, ?_⟩, ?_⟩, ?_⟩, ?_⟩, ?_⟩, ?_⟩, ?_⟩, ?_⟩, ?_⟩, ?_⟩, ?_⟩ ?_
    {
    intro ρ w Γx Λx hs hu hp
    refine WL.move (v := .slice a9 (x1.Operations).length c10) ((hu 3 rfl).trans h246_3) ?_
    exact WL.nil ⟨rfl, _, rfl, rfl, hs.cutG 0 0⟩ }
    {
    intro ρ w Γx Λx hs hu hp
    refine WL.move (v := .int .i64 x17) ((hu 4 rfl).trans h246_4) ?_
    exact WL.nil ⟨rfl, _, rfl, rfl, hs.cutG 0 0⟩ }
    {
    intro ρ w Γx Λx hs hu hp
    have e577 : ρ 54 = .slice a9 (x1.Operations).length c10 := (hp 0 rfl).1
    have e578 : ρ 55 = .int .i64 x17 := (hp 1 rfl).1
    refine WL.indexAddr hs (Γx.length + 0) (getApp rfl) UN22 TI35 e577 e578 hxx260 (fun ad261 hs => ?_)
    have hs := hs.add (it := pl t_history_Operation x260 ad261) fun ok hA => hA.get 0 rfl
    exact WL.nil ⟨rfl, _, rfl, ⟨ad261, rfl⟩, hs.cutG 1 1⟩ }
    {
    intro ρ w Γx Λx hs hu hp
    obtain ⟨⟨ad579, e580r⟩, hm581⟩ := hp 2 rfl
    have e580 : ρ 56 = .pointer (some ad579) := e580r
    rw [e580r] at hm581
    have hs := hs.memo1 (it := pl t_history_Operation x260 ad579) (List.mem_append.2 (.inl (hm581 _ (List.mem_of_getElem? (i := 0) rfl))))
    refine WL.fieldAddrP (z := x260.Call) F_history_Operation_Call hs 0 rfl e580 FA35_4 rfl (fun ad262 hs => ?_)
    have hs := hs.add (it := pl (tInt .i64) x260.Call ad262) fun ok hA => hA.get 0 rfl
    exact WL.nil ⟨rfl, _, rfl, ⟨ad262, rfl⟩, hs.cutG 1 2⟩ }
    {
    intro ρ w Γx Λx hs hu hp
    obtain ⟨⟨ad582, e583r⟩, hm584⟩ := hp 3 rfl
    have e583 : ρ 57 = .pointer (some ad582) := e583r
    rw [e583r] at hm584
    have hs := hs.memo1 (it := pl (tInt .i64) x260.Call ad582) (List.mem_append.2 (.inl (hm584 _ (List.mem_of_getElem? (i := 0) rfl))))
    refine WL.loadP hs 0 rfl TI3 (.inr rfl) e583 (fun v263 hs => ?_)
    obtain rfl := hs.int 0 rfl
    exact WL.nil ⟨rfl, _, rfl, rfl, hs.cutG 0 2⟩ }
    {
    intro ρ w Γx Λx hs hu hp
    refine WL.move (v := .slice a9 (x1.Operations).length c10) ((hu 3 rfl).trans h246_3) ?_
    exact WL.nil ⟨rfl, _, rfl, rfl, hs.cutG 0 0⟩ }
    {
    intro ρ w Γx Λx hs hu hp
    refine WL.move (v := .int .i64 x247) ((hu 7 rfl).trans h246_7) ?_
    exact WL.nil ⟨rfl, _, rfl, rfl, hs.cutG 0 0⟩ }
    {
    intro ρ w Γx Λx hs hu hp
    have e585 : ρ 59 = .slice a9 (x1.Operations).length c10 := (hp 5 rfl).1
    have e586 : ρ 60 = .int .i64 x247 := (hp 6 rfl).1
    refine WL.indexAddr hs (Γx.length + 0) (getApp rfl) UN22 TI35 e585 e586 hxx264 (fun ad265 hs => ?_)
    have hs := hs.add (it := pl t_history_Operation x264 ad265) fun ok hA => hA.get 0 rfl
    exact WL.nil ⟨rfl, _, rfl, ⟨ad265, rfl⟩, hs.cutG 1 1⟩ }
    {
    intro ρ w Γx Λx hs hu hp
    obtain ⟨⟨ad587, e588r⟩, hm589⟩ := hp 7 rfl
    have e588 : ρ 61 = .pointer (some ad587) := e588r
    rw [e588r] at hm589
    have hs := hs.memo1 (it := pl t_history_Operation x264 ad587) (List.mem_append.2 (.inl (hm589 _ (List.mem_of_getElem? (i := 0) rfl))))
    refine WL.fieldAddrP (z := x264.Return) F_history_Operation_Return hs 0 rfl e588 FA35_5 rfl (fun ad266 hs => ?_)
    have hs := hs.add (it := pl (tInt .i64) x264.Return ad266) fun ok hA => hA.get 0 rfl
    exact WL.nil ⟨rfl, _, rfl, ⟨ad266, rfl⟩, hs.cutG 1 2⟩ }
    {
    intro ρ w Γx Λx hs hu hp
    obtain ⟨⟨ad590, e591r⟩, hm592⟩ := hp 8 rfl
    have e591 : ρ 62 = .pointer (some ad590) := e591r
    rw [e591r] at hm592
    have hs := hs.memo1 (it := pl (tInt .i64) x264.Return ad590) (List.mem_append.2 (.inl (hm592 _ (List.mem_of_getElem? (i := 0) rfl))))
    refine WL.loadP hs 0 rfl TI3 (.inr rfl) e591 (fun v267 hs => ?_)
    obtain rfl := hs.int 0 rfl
    exact WL.nil ⟨rfl, _, rfl, rfl, hs.cutG 0 2⟩ }
    {
    intro ρ w Γx Λx hs hu hp
    have e593 : ρ 58 = .int .i64 x260.Call := (hp 4 rfl).1
    have e594 : ρ 63 = .int .i64 x264.Return := (hp 9 rfl).1
    refine WL.bin (v := .bool (x260.Call == x264.Return)) e593 e594 (ib_eql _ _ _) ?_
    exact WL.nil ⟨rfl, _, rfl, rfl, hs.cutG 0 0⟩ }
    {
    intro ρ w Γx Λx hs hu hp
    have e595 : ρ 64 = .bool (x260.Call == x264.Return) := (hp 10 rfl).1
    refine WL.move (v := .bool (x260.Call == x264.Return)) e595 ?_
    exact WL.nil ⟨rfl, _, rfl, rfl, hs.cutG 0 0⟩ }
    {
    intro ρ w Γx Λx hs hu hp
    have e596 : ρ 65 = .bool (x260.Call == x264.Return) := (hp 11 rfl).1
    refine WL.move (v := .slice a9 (x1.Operations).length c10) ((hu 3 rfl).trans h246_3) ?_ (hg := (wanted_of rfl rfl (bool_tr e596 hc268)).trans rfl)
    exact WL.nil ⟨rfl, _, rfl, rfl, hs.cutG 0 0⟩ }
    {
    intro ρ w Γx Λx hs hu hp
    have e597 : ρ 65 = .bool (x260.Call == x264.Return) := (hp 11 rfl).1
    refine WL.move (v := .int .i64 x17) ((hu 4 rfl).trans h246_4) ?_ (hg := (wanted_of rfl rfl (bool_tr e597 hc268)).trans rfl)
    exact WL.nil ⟨rfl, _, rfl, rfl, hs.cutG 0 0⟩ }
    {
    intro ρ w Γx Λx hs hu hp
    have e598 : ρ 66 = .slice a9 (x1.Operations).length c10 := (hp 12 rfl).1
    have e599 : ρ 67 = .int .i64 x17 := (hp 13 rfl).1
    have e600 : ρ 65 = .bool (x260.Call == x264.Return) := (hp 11 rfl).1
    refine WL.indexAddr hs (Γx.length + 0) (getApp rfl) UN22 TI35 e598 e599 hxx403 (fun ad404 hs => ?_) (hg := (wanted_of rfl rfl (bool_tr e600 hc268)).trans rfl)
    have hs := hs.add (it := pl t_history_Operation x403 ad404) fun ok hA => hA.get 0 rfl
    exact WL.nil ⟨rfl, _, rfl, ⟨ad404, rfl⟩, hs.cutG 1 1⟩ }
    {
    intro ρ w Γx Λx hs hu hp
    obtain ⟨⟨ad601, e602r⟩, hm603⟩ := hp 14 rfl
    have e602 : ρ 68 = .pointer (some ad601) := e602r
    rw [e602r] at hm603
    have hs := hs.memo1 (it := pl t_history_Operation x403 ad601) (List.mem_append.2 (.inl (hm603 _ (List.mem_of_getElem? (i := 0) rfl))))
    have e604 : ρ 65 = .bool (x260.Call == x264.Return) := (hp 11 rfl).1
    refine WL.fieldAddrP (z := x403.Return) F_history_Operation_Return hs 0 rfl e602 FA35_5 rfl (fun ad405 hs => ?_) (hg := (wanted_of rfl rfl (bool_tr e604 hc268)).trans rfl)
    have hs := hs.add (it := pl (tInt .i64) x403.Return ad405) fun ok hA => hA.get 0 rfl
    exact WL.nil ⟨rfl, _, rfl, ⟨ad405, rfl⟩, hs.cutG 1 2⟩ }
    {
    intro ρ w Γx Λx hs hu hp
    obtain ⟨⟨ad605, e606r⟩, hm607⟩ := hp 15 rfl
    have e606 : ρ 69 = .pointer (some ad605) := e606r
    rw [e606r] at hm607
    have hs := hs.memo1 (it := pl (tInt .i64) x403.Return ad605) (List.mem_append.2 (.inl (hm607 _ (List.mem_of_getElem? (i := 0) rfl))))
    have e608 : ρ 65 = .bool (x260.Call == x264.Return) := (hp 11 rfl).1
    refine WL.loadP hs 0 rfl TI3 (.inr rfl) e606 (fun v406 hs => ?_) (hg := (wanted_of rfl rfl (bool_tr e608 hc268)).trans rfl)
    obtain rfl := hs.int 0 rfl
    exact WL.nil ⟨rfl, _, rfl, rfl, hs.cutG 0 2⟩ }
    {
    intro ρ w Γx Λx hs hu hp
    have e609 : ρ 70 = .int .i64 x403.Return := (hp 16 rfl).1
    have e610 : ρ 65 = .bool (x260.Call == x264.Return) := (hp 11 rfl).1
    refine WL.bin (v := .bool (x403.Return != 0)) e609 rfl (ib_neq _ _ _) ?_ (hg := (wanted_of rfl rfl (bool_tr e610 hc268)).trans rfl)
    exact WL.nil ⟨rfl, _, rfl, rfl, hs.cutG 0 0⟩ }
    {
    intro ρ w Γx Λx hs hu hp
    have e611 : ρ 71 = .bool (x403.Return != 0) := (hp 17 rfl).1
    have e612 : ρ 65 = .bool (x260.Call == x264.Return) := (hp 11 rfl).1
    refine WL.move (v := .bool (x403.Return != 0)) e611 ?_ (hg := (wanted_of rfl rfl (bool_tr e612 hc268)).trans rfl)
    exact WL.nil ⟨rfl, _, rfl, rfl, hs.cutG 0 0⟩ }
    {
    intro ρ w Γx Λx hs hu hp
    have e613 : ρ 72 = .bool (x403.Return != 0) := (hp 18 rfl).1
    refine WL.move (v := .slice a9 (x1.Operations).length c10) ((hu 3 rfl).trans h246_3) ?_ (hg := (wanted_of rfl rfl (bool_tr e613 hc407)).trans rfl)
    exact WL.nil ⟨rfl, _, rfl, rfl, hs.cutG 0 0⟩ }
    {
    intro ρ w Γx Λx hs hu hp
    have e614 : ρ 72 = .bool (x403.Return != 0) := (hp 18 rfl).1
    refine WL.move (v := .int .i64 x17) ((hu 4 rfl).trans h246_4) ?_ (hg := (wanted_of rfl rfl (bool_tr e614 hc407)).trans rfl)
    exact WL.nil ⟨rfl, _, rfl, rfl, hs.cutG 0 0⟩ }
    {
    intro ρ w Γx Λx hs hu hp
    have e615 : ρ 73 = .slice a9 (x1.Operations).length c10 := (hp 19 rfl).1
    have e616 : ρ 74 = .int .i64 x17 := (hp 20 rfl).1
    have e617 : ρ 72 = .bool (x403.Return != 0) := (hp 18 rfl).1
    refine WL.indexAddr hs (Γx.length + 0) (getApp rfl) UN22 TI35 e615 e616 hxx408 (fun ad409 hs => ?_) (hg := (wanted_of rfl rfl (bool_tr e617 hc407)).trans rfl)
    have hs := hs.add (it := pl t_history_Operation x408 ad409) fun ok hA => hA.get 0 rfl
    exact WL.nil ⟨rfl, _, rfl, ⟨ad409, rfl⟩, hs.cutG 1 1⟩ }
    {
    intro ρ w Γx Λx hs hu hp
    obtain ⟨⟨ad618, e619r⟩, hm620⟩ := hp 21 rfl
    have e619 : ρ 75 = .pointer (some ad618) := e619r
    rw [e619r] at hm620
    have hs := hs.memo1 (it := pl t_history_Operation x408 ad618) (List.mem_append.2 (.inl (hm620 _ (List.mem_of_getElem? (i := 0) rfl))))
    have e621 : ρ 72 = .bool (x403.Return != 0) := (hp 18 rfl).1
    refine WL.fieldAddrP (z := x408.Return) F_history_Operation_Return hs 0 rfl e619 FA35_5 rfl (fun ad410 hs => ?_) (hg := (wanted_of rfl rfl (bool_tr e621 hc407)).trans rfl)
    have hs := hs.add (it := pl (tInt .i64) x408.Return ad410) fun ok hA => hA.get 0 rfl
    exact WL.nil ⟨rfl, _, rfl, ⟨ad410, rfl⟩, hs.cutG 1 2⟩ }
    {
    intro ρ w Γx Λx hs hu hp
    obtain ⟨⟨ad622, e623r⟩, hm624⟩ := hp 22 rfl
    have e623 : ρ 76 = .pointer (some ad622) := e623r
    rw [e623r] at hm624
    have hs := hs.memo1 (it := pl (tInt .i64) x408.Return ad622) (List.mem_append.2 (.inl (hm624 _ (List.mem_of_getElem? (i := 0) rfl))))
    have e625 : ρ 72 = .bool (x403.Return != 0) := (hp 18 rfl).1
    refine WL.loadP hs 0 rfl TI3 (.inr rfl) e623 (fun v411 hs => ?_) (hg := (wanted_of rfl rfl (bool_tr e625 hc407)).trans rfl)
    obtain rfl := hs.int 0 rfl
    exact WL.nil ⟨rfl, _, rfl, rfl, hs.cutG 0 2⟩ }
    {
    intro ρ w Γx Λx hs hu hp
    have e626 : ρ 72 = .bool (x403.Return != 0) := (hp 18 rfl).1
    refine WL.move (v := .slice a9 (x1.Operations).length c10) ((hu 3 rfl).trans h246_3) ?_ (hg := (wanted_of rfl rfl (bool_tr e626 hc407)).trans rfl)
    exact WL.nil ⟨rfl, _, rfl, rfl, hs.cutG 0 0⟩ }
    {
    intro ρ w Γx Λx hs hu hp
    have e627 : ρ 72 = .bool (x403.Return != 0) := (hp 18 rfl).1
    refine WL.move (v := .int .i64 x247) ((hu 7 rfl).trans h246_7) ?_ (hg := (wanted_of rfl rfl (bool_tr e627 hc407)).trans rfl)
    exact WL.nil ⟨rfl, _, rfl, rfl, hs.cutG 0 0⟩ }
    {
    intro ρ w Γx Λx hs hu hp
    have e628 : ρ 78 = .slice a9 (x1.Operations).length c10 := (hp 24 rfl).1
    have e629 : ρ 79 = .int .i64 x247 := (hp 25 rfl).1
    have e630 : ρ 72 = .bool (x403.Return != 0) := (hp 18 rfl).1
    refine WL.indexAddr hs (Γx.length + 0) (getApp rfl) UN22 TI35 e628 e629 hxx412 (fun ad413 hs => ?_) (hg := (wanted_of rfl rfl (bool_tr e630 hc407)).trans rfl)
    have hs := hs.add (it := pl t_history_Operation x412 ad413) fun ok hA => hA.get 0 rfl
    exact WL.nil ⟨rfl, _, rfl, ⟨ad413, rfl⟩, hs.cutG 1 1⟩ }
    {
    intro ρ w Γx Λx hs hu hp
    obtain ⟨⟨ad631, e632r⟩, hm633⟩ := hp 26 rfl
    have e632 : ρ 80 = .pointer (some ad631) := e632r
    rw [e632r] at hm633
    have hs := hs.memo1 (it := pl t_history_Operation x412 ad631) (List.mem_append.2 (.inl (hm633 _ (List.mem_of_getElem? (i := 0) rfl))))
    have e634 : ρ 72 = .bool (x403.Return != 0) := (hp 18 rfl).1
    refine WL.fieldAddrP (z := x412.Call) F_history_Operation_Call hs 0 rfl e632 FA35_4 rfl (fun ad414 hs => ?_) (hg := (wanted_of rfl rfl (bool_tr e634 hc407)).trans rfl)
    have hs := hs.add (it := pl (tInt .i64) x412.Call ad414) fun ok hA => hA.get 0 rfl
    exact WL.nil ⟨rfl, _, rfl, ⟨ad414, rfl⟩, hs.cutG 1 2⟩ }
    {
    intro ρ w Γx Λx hs hu hp
    obtain ⟨⟨ad635, e636r⟩, hm637⟩ := hp 27 rfl
    have e636 : ρ 81 = .pointer (some ad635) := e636r
    rw [e636r] at hm637
    have hs := hs.memo1 (it := pl (tInt .i64) x412.Call ad635) (List.mem_append.2 (.inl (hm637 _ (List.mem_of_getElem? (i := 0) rfl))))
    have e638 : ρ 72 = .bool (x403.Return != 0) := (hp 18 rfl).1
    refine WL.loadP hs 0 rfl TI3 (.inr rfl) e636 (fun v415 hs => ?_) (hg := (wanted_of rfl rfl (bool_tr e638 hc407)).trans rfl)
    obtain rfl := hs.int 0 rfl
    exact WL.nil ⟨rfl, _, rfl, rfl, hs.cutG 0 2⟩ }
    {
    intro ρ w Γx Λx hs hu hp
    have e639 : ρ 77 = .int .i64 x408.Return := (hp 23 rfl).1
    have e640 : ρ 82 = .int .i64 x412.Call := (hp 28 rfl).1
    have e641 : ρ 72 = .bool (x403.Return != 0) := (hp 18 rfl).1
    refine WL.bin (v := .bool (x408.Return == x412.Call)) e639 e640 (ib_eql _ _ _) ?_ (hg := (wanted_of rfl rfl (bool_tr e641 hc407)).trans rfl)
    exact WL.nil ⟨rfl, _, rfl, rfl, hs.cutG 0 0⟩ }
    {
    intro ρ w Γx Λx hs hu hp
    have e642 : ρ 83 = .bool (x408.Return == x412.Call) := (hp 29 rfl).1
    have e643 : ρ 72 = .bool (x403.Return != 0) := (hp 18 rfl).1
    refine WL.move (v := .bool (x408.Return == x412.Call)) e642 ?_ (hg := (wanted_of rfl rfl (bool_tr e643 hc407)).trans rfl)
    exact WL.nil ⟨rfl, _, rfl, rfl, hs.cutG 0 0⟩ }
    {
    intro ρ w Γx Λx hs hu hp
    have e644 : ρ 84 = .bool (x408.Return == x412.Call) := (hp 30 rfl).1
    refine WL.move (v := .slice a9 (x1.Operations).length c10) ((hu 3 rfl).trans h246_3) ?_ (hg := (wanted_of rfl rfl (bool_tr e644 hc416)).trans rfl)
    exact WL.nil ⟨rfl, _, rfl, rfl, hs.cutG 0 0⟩ }
    {
    intro ρ w Γx Λx hs hu hp
    have e645 : ρ 84 = .bool (x408.Return == x412.Call) := (hp 30 rfl).1
    refine WL.move (v := .int .i64 x17) ((hu 4 rfl).trans h246_4) ?_ (hg := (wanted_of rfl rfl (bool_tr e645 hc416)).trans rfl)
    exact WL.nil ⟨rfl, _, rfl, rfl, hs.cutG 0 0⟩ }
    {
    intro ρ w Γx Λx hs hu hp
    have e646 : ρ 85 = .slice a9 (x1.Operations).length c10 := (hp 31 rfl).1
    have e647 : ρ 86 = .int .i64 x17 := (hp 32 rfl).1
    have e648 : ρ 84 = .bool (x408.Return == x412.Call) := (hp 30 rfl).1
    refine WL.indexAddr hs (Γx.length + 0) (getApp rfl) UN22 TI35 e646 e647 hxx569 (fun ad570 hs => ?_) (hg := (wanted_of rfl rfl (bool_tr e648 hc416)).trans rfl)
    have hs := hs.add (it := pl t_history_Operation x569 ad570) fun ok hA => hA.get 0 rfl
    exact WL.nil ⟨rfl, _, rfl, ⟨ad570, rfl⟩, hs.cutG 1 1⟩ }
    {
    intro ρ w Γx Λx hs hu hp
    obtain ⟨⟨ad649, e650r⟩, hm651⟩ := hp 33 rfl
    have e650 : ρ 87 = .pointer (some ad649) := e650r
    rw [e650r] at hm651
    have hs := hs.memo1 (it := pl t_history_Operation x569 ad649) (List.mem_append.2 (.inl (hm651 _ (List.mem_of_getElem? (i := 0) rfl))))
    have e652 : ρ 84 = .bool (x408.Return == x412.Call) := (hp 30 rfl).1
    refine WL.fieldAddrP (z := x569.Return) F_history_Operation_Return hs 0 rfl e650 FA35_5 rfl (fun ad571 hs => ?_) (hg := (wanted_of rfl rfl (bool_tr e652 hc416)).trans rfl)
    have hs := hs.add (it := pl (tInt .i64) x569.Return ad571) fun ok hA => hA.get 0 rfl
    exact WL.nil ⟨rfl, _, rfl, ⟨ad571, rfl⟩, hs.cutG 1 2⟩ }
    {
    intro ρ w Γx Λx hs hu hp
    obtain ⟨⟨ad653, e654r⟩, hm655⟩ := hp 34 rfl
    have e654 : ρ 88 = .pointer (some ad653) := e654r
    rw [e654r] at hm655
    have hs := hs.memo1 (it := pl (tInt .i64) x569.Return ad653) (List.mem_append.2 (.inl (hm655 _ (List.mem_of_getElem? (i := 0) rfl))))
    have e656 : ρ 84 = .bool (x408.Return == x412.Call) := (hp 30 rfl).1
    refine WL.loadP hs 0 rfl TI3 (.inr rfl) e654 (fun v572 hs => ?_) (hg := (wanted_of rfl rfl (bool_tr e656 hc416)).trans rfl)
    obtain rfl := hs.int 0 rfl
    exact WL.nil ⟨rfl, _, rfl, rfl, hs.cutG 0 2⟩ }
    {
    intro ρ w Γx Λx hs hu hp
    have e657 : ρ 84 = .bool (x408.Return == x412.Call) := (hp 30 rfl).1
    refine WL.move (v := .slice a9 (x1.Operations).length c10) ((hu 3 rfl).trans h246_3) ?_ (hg := (wanted_of rfl rfl (bool_tr e657 hc416)).trans rfl)
    exact WL.nil ⟨rfl, _, rfl, rfl, hs.cutG 0 0⟩ }
    {
    intro ρ w Γx Λx hs hu hp
    have e658 : ρ 84 = .bool (x408.Return == x412.Call) := (hp 30 rfl).1
    refine WL.move (v := .int .i64 x247) ((hu 7 rfl).trans h246_7) ?_ (hg := (wanted_of rfl rfl (bool_tr e658 hc416)).trans rfl)
    exact WL.nil ⟨rfl, _, rfl, rfl, hs.cutG 0 0⟩ }
    {
    intro ρ w Γx Λx hs hu hp
    have e659 : ρ 90 = .slice a9 (x1.Operations).length c10 := (hp 36 rfl).1
    have e660 : ρ 91 = .int .i64 x247 := (hp 37 rfl).1
    have e661 : ρ 84 = .bool (x408.Return == x412.Call) := (hp 30 rfl).1
    refine WL.indexAddr hs (Γx.length + 0) (getApp rfl) UN22 TI35 e659 e660 hxx573 (fun ad574 hs => ?_) (hg := (wanted_of rfl rfl (bool_tr e661 hc416)).trans rfl)
    have hs := hs.add (it := pl t_history_Operation x573 ad574) fun ok hA => hA.get 0 rfl
    exact WL.nil ⟨rfl, _, rfl, ⟨ad574, rfl⟩, hs.cutG 1 1⟩ }
    {
    intro ρ w Γx Λx hs hu hp
    obtain ⟨⟨ad662, e663r⟩, hm664⟩ := hp 38 rfl
    have e663 : ρ 92 = .pointer (some ad662) := e663r
    rw [e663r] at hm664
    have hs := hs.memo1 (it := pl t_history_Operation x573 ad662) (List.mem_append.2 (.inl (hm664 _ (List.mem_of_getElem? (i := 0) rfl))))
    have e665 : ρ 84 = .bool (x408.Return == x412.Call) := (hp 30 rfl).1
    refine WL.fieldAddrP (z := x573.Return) F_history_Operation_Return hs 0 rfl e663 FA35_5 rfl (fun ad575 hs => ?_) (hg := (wanted_of rfl rfl (bool_tr e665 hc416)).trans rfl)
    have hs := hs.add (it := pl (tInt .i64) x573.Return ad575) fun ok hA => hA.get 0 rfl
    exact WL.nil ⟨rfl, _, rfl, ⟨ad575, rfl⟩, hs.cutG 1 2⟩ }
    {
    intro ρ w Γx Λx hs hu hp
    obtain ⟨⟨ad666, e667r⟩, hm668⟩ := hp 39 rfl
    have e667 : ρ 93 = .pointer (some ad666) := e667r
    rw [e667r] at hm668
    have hs := hs.memo1 (it := pl (tInt .i64) x573.Return ad666) (List.mem_append.2 (.inl (hm668 _ (List.mem_of_getElem? (i := 0) rfl))))
    have e669 : ρ 84 = .bool (x408.Return == x412.Call) := (hp 30 rfl).1
    refine WL.loadP hs 0 rfl TI3 (.inr rfl) e667 (fun v576 hs => ?_) (hg := (wanted_of rfl rfl (bool_tr e669 hc416)).trans rfl)
    obtain rfl := hs.int 0 rfl
    exact WL.nil ⟨rfl, _, rfl, rfl, hs.cutG 0 2⟩ }
    {
    intro ρ w Γx Λx hs hu hp
    have e670 : ρ 89 = .int .i64 x569.Return := (hp 35 rfl).1
    have e671 : ρ 94 = .int .i64 x573.Return := (hp 40 rfl).1
    have e672 : ρ 84 = .bool (x408.Return == x412.Call) := (hp 30 rfl).1
    refine WL.bin (v := .bool (x569.Return == x573.Return)) e670 e671 (ib_eql _ _ _) ?_ (hg := (wanted_of rfl rfl (bool_tr e672 hc416)).trans rfl)
    exact WL.nil ⟨rfl, _, rfl, rfl, hs.cutG 0 0⟩ }
    {
    intro ρ w Γx Λx hs hu hp
    have e673 : ρ 84 = .bool (x408.Return == x412.Call) := (hp 30 rfl).1
    have e674 : ρ 95 = .bool (x569.Return == x573.Return) := (hp 41 rfl).1
    have e675 : ρ 72 = .bool (x403.Return != 0) := (hp 18 rfl).1
    refine WL.pickF (v := .bool (x569.Return == x573.Return)) (bool_tr e673 hc416) e674 ?_ (hg := (wanted_of rfl rfl (bool_tr e675 hc407)).trans rfl)
    exact WL.nil ⟨rfl, _, rfl, rfl, hs.cutG 0 0⟩ }
    {
    intro ρ w Γx Λx hs hu hp
    have e676 : ρ 72 = .bool (x403.Return != 0) := (hp 18 rfl).1
    have e677 : ρ 96 = .bool (x569.Return == x573.Return) := (hp 42 rfl).1
    have e678 : ρ 65 = .bool (x260.Call == x264.Return) := (hp 11 rfl).1
    refine WL.pickT (v := .bool (x569.Return == x573.Return)) (bool_tr e676 hc407) e677 ?_ (hg := (wanted_of rfl rfl (bool_tr e678 hc268)).trans rfl)
    exact WL.nil ⟨rfl, _, rfl, rfl, hs.cutG 0 0⟩ }
    {
    intro ρ w Γx Λx hs hu hp
    have e679 : ρ 65 = .bool (x260.Call == x264.Return) := (hp 11 rfl).1
    have e680 : ρ 97 = .bool (x569.Return == x573.Return) := (hp 43 rfl).1
    refine WL.pickF (v := .bool (x569.Return == x573.Return)) (bool_tr e679 hc268) e680 ?_
    exact WL.nil ⟨rfl, _, rfl, rfl, hs.cutG 0 0⟩ }
    {
    intro ρ w hs hu681 hp
    obtain ⟨⟨⟨⟨⟨⟨⟨⟨⟨⟨⟨⟨⟨⟨⟨⟨⟨⟨⟨⟨⟨⟨⟨⟨⟨⟨⟨⟨⟨⟨⟨⟨⟨⟨⟨⟨⟨⟨⟨⟨⟨⟨⟨⟨⟨_, hp0_⟩, hp1_⟩, hp2_⟩, hp3_⟩, hp4_⟩, hp5_⟩, hp6_⟩, hp7_⟩, hp8_⟩, hp9_⟩, hp10_⟩, hp11_⟩, hp12_⟩, hp13_⟩, hp14_⟩, hp15_⟩, hp16_⟩, hp17_⟩, hp18_⟩, hp19_⟩, hp20_⟩, hp21_⟩, hp22_⟩, hp23_⟩, hp24_⟩, hp25_⟩, hp26_⟩, hp27_⟩, hp28_⟩, hp29_⟩, hp30_⟩, hp31_⟩, hp32_⟩, hp33_⟩, hp34_⟩, hp35_⟩, hp36_⟩, hp37_⟩, hp38_⟩, hp39_⟩, hp40_⟩, hp41_⟩, hp42_⟩, hp43_⟩, hp44_⟩ := hp
    have hs : St ok (bz w0) w [pl (tInt .i64) x573.Return (adOf (ρ 93)), pl t_history_Operation x573 (adOf (ρ 92)), pl (tInt .i64) x569.Return (adOf (ρ 88)), pl t_history_Operation x569 (adOf (ρ 87)), pl (tInt .i64) x412.Call (adOf (ρ 81)), pl t_history_Operation x412 (adOf (ρ 80)), pl (tInt .i64) x408.Return (adOf (ρ 76)), pl t_history_Operation x408 (adOf (ρ 75)), pl (tInt .i64) x403.Return (adOf (ρ 69)), pl t_history_Operation x403 (adOf (ρ 68)), pl (tInt .i64) x264.Return (adOf (ρ 62)), pl t_history_Operation x264 (adOf (ρ 61)), pl (tInt .i64) x260.Call (adOf (ρ 57)), pl t_history_Operation x260 (adOf (ρ 56)), vl (tSlice t_history_Operation) x1.Operations (.slice a9 (x1.Operations).length c10)] [] := hs
    have e682 : ρ 98 = .bool (x569.Return == x573.Return) := hp44_
    have e683 : ρ 97 = .bool (x569.Return == x573.Return) := hp43_
    have e684 : ρ 96 = .bool (x569.Return == x573.Return) := hp42_
    have e685 : ρ 95 = .bool (x569.Return == x573.Return) := hp41_
    have e686 : ρ 94 = .int .i64 x573.Return := hp40_
    obtain ⟨ad687, e688⟩ := hp39_
    have e688 : ρ 93 = .pointer (some ad687) := e688
    try rw [e688] at hs
    obtain ⟨ad689, e690⟩ := hp38_
    have e690 : ρ 92 = .pointer (some ad689) := e690
    try rw [e690] at hs
    have e691 : ρ 91 = .int .i64 x247 := hp37_
    have e692 : ρ 90 = .slice a9 (x1.Operations).length c10 := hp36_
    have e693 : ρ 89 = .int .i64 x569.Return := hp35_
    obtain ⟨ad694, e695⟩ := hp34_
    have e695 : ρ 88 = .pointer (some ad694) := e695
    try rw [e695] at hs
    obtain ⟨ad696, e697⟩ := hp33_
    have e697 : ρ 87 = .pointer (some ad696) := e697
    try rw [e697] at hs
    have e698 : ρ 86 = .int .i64 x17 := hp32_
    have e699 : ρ 85 = .slice a9 (x1.Operations).length c10 := hp31_
    have e700 : ρ 84 = .bool (x408.Return == x412.Call) := hp30_
    have e701 : ρ 83 = .bool (x408.Return == x412.Call) := hp29_
    have e702 : ρ 82 = .int .i64 x412.Call := hp28_
    obtain ⟨ad703, e704⟩ := hp27_
    have e704 : ρ 81 = .pointer (some ad703) := e704
    try rw [e704] at hs
    obtain ⟨ad705, e706⟩ := hp26_
    have e706 : ρ 80 = .pointer (some ad705) := e706
    try rw [e706] at hs
    have e707 : ρ 79 = .int .i64 x247 := hp25_
    have e708 : ρ 78 = .slice a9 (x1.Operations).length c10 := hp24_
    have e709 : ρ 77 = .int .i64 x408.Return := hp23_
    obtain ⟨ad710, e711⟩ := hp22_
    have e711 : ρ 76 = .pointer (some ad710) := e711
    try rw [e711] at hs
    obtain ⟨ad712, e713⟩ := hp21_
    have e713 : ρ 75 = .pointer (some ad712) := e713
    try rw [e713] at hs
    have e714 : ρ 74 = .int .i64 x17 := hp20_
    have e715 : ρ 73 = .slice a9 (x1.Operations).length c10 := hp19_
    have e716 : ρ 72 = .bool (x403.Return != 0) := hp18_
    have e717 : ρ 71 = .bool (x403.Return != 0) := hp17_
    have e718 : ρ 70 = .int .i64 x403.Return := hp16_
    obtain ⟨ad719, e720⟩ := hp15_
    have e720 : ρ 69 = .pointer (some ad719) := e720
    try rw [e720] at hs
    obtain ⟨ad721, e722⟩ := hp14_
    have e722 : ρ 68 = .pointer (some ad721) := e722
    try rw [e722] at hs
    have e723 : ρ 67 = .int .i64 x17 := hp13_
    have e724 : ρ 66 = .slice a9 (x1.Operations).length c10 := hp12_
    have e725 : ρ 65 = .bool (x260.Call == x264.Return) := hp11_
    have e726 : ρ 64 = .bool (x260.Call == x264.Return) := hp10_
    have e727 : ρ 63 = .int .i64 x264.Return := hp9_
    obtain ⟨ad728, e729⟩ := hp8_
    have e729 : ρ 62 = .pointer (some ad728) := e729
    try rw [e729] at hs
    obtain ⟨ad730, e731⟩ := hp7_
    have e731 : ρ 61 = .pointer (some ad730) := e731
    try rw [e731] at hs
    have e732 : ρ 60 = .int .i64 x247 := hp6_
    have e733 : ρ 59 = .slice a9 (x1.Operations).length c10 := hp5_
    have e734 : ρ 58 = .int .i64 x260.Call := hp4_
    obtain ⟨ad735, e736⟩ := hp3_
    have e736 : ρ 57 = .pointer (some ad735) := e736
    try rw [e736] at hs
    obtain ⟨ad737, e738⟩ := hp2_
    have e738 : ρ 56 = .pointer (some ad737) := e738
    try rw [e738] at hs
    have e739 : ρ 55 = .int .i64 x17 := hp1_
    have e740 : ρ 54 = .slice a9 (x1.Operations).length c10 := hp0_
    refine WA.done (by kernel_rfl) ?_
    exact Jk256 (x569.Return == x573.Return) _ _ ((hu681 3 rfl).trans h246_3) ((hu681 4 rfl).trans h246_4) ((hu681 7 rfl).trans h246_7) e682 ((hs.mask []).pick [14]) hf } } }
    {
    refine W.any (by kernel_rfl) 45 0 [true, true, true, true, true, true, true, true, true, true, true, true, true, true, true, true, true, true, true, true, true, true, true, true, true, true, true, true, true, true, true, true, true, true, true, true, true, true, true, true, true, true, true, true, true] rfl rfl (poAt [pv (.slice a9 (x1.Operations).length c10), pv (.int .i64 x17), pq (fun y : Addr => .pointer (some y)) (fun v => [pl t_history_Operation x260 (adOf v)]) (fun v => []), pq (fun y : Addr => .pointer (some y)) (fun v => [pl (tInt .i64) x260.Call (adOf v)]) (fun v => []), pv (.int .i64 x260.Call), pv (.slice a9 (x1.Operations).length c10), pv (.int .i64 x247), pq (fun y : Addr => .pointer (some y)) (fun v => [pl t_history_Operation x264 (adOf v)]) (fun v => []), pq (fun y : Addr => .pointer (some y)) (fun v => [pl (tInt .i64) x264.Return (adOf v)]) (fun v => []), pv (.int .i64 x264.Return), pv (.bool (x260.Call == x264.Return)), pv (.bool (x260.Call == x264.Return)), pv (.slice a9 (x1.Operations).length c10), pv (.int .i64 x17), pq (fun y : Addr => .pointer (some y)) (fun v => [pl t_history_Operation x403 (adOf v)]) (fun v => []), pq (fun y : Addr => .pointer (some y)) (fun v => [pl (tInt .i64) x403.Return (adOf v)]) (fun v => []), pv (.int .i64 x403.Return), pv (.bool (x403.Return != 0)), pv (.bool (x403.Return != 0)), pv (undef), pv (undef), pv (undef), pv (undef), pv (undef), pv (undef), pv (undef), pv (undef), pv (undef), pv (undef), pv (undef), pv (undef), pv (undef), pv (undef), pv (undef), pv (undef), pv (undef), pv (undef), pv (undef), pv (undef), pv (undef), pv (undef), pv (undef), pv (undef), pv (.bool false), pv (.bool false)]) (Λ := []) hs (by kernel_rfl) (by kernel_rfl) (by kernel_rfl) ⟨⟨⟨⟨⟨⟨⟨⟨⟨⟨⟨⟨⟨⟨⟨⟨⟨⟨⟨⟨⟨⟨⟨⟨⟨⟨⟨⟨⟨⟨⟨⟨⟨⟨⟨⟨⟨⟨⟨⟨⟨⟨⟨⟨⟨trivial, ?_⟩, ?_⟩, ?_⟩, ?_⟩, ?_⟩, ?_⟩, ?_⟩, ?_⟩, ?_⟩, ?_⟩, ?_⟩, ?_⟩, ?_⟩, ?_⟩, ?_⟩, ?_⟩, ?_⟩, ?_⟩, ?_⟩, ?_⟩, ?_⟩, ?_⟩, ?_⟩, ?_⟩, ?_⟩, ?_⟩, ?_⟩, ?_⟩, ?_⟩, ?_⟩, ?_⟩, ?_⟩, ?_⟩, ?_⟩, ?_⟩, ?_⟩, ?_⟩, ?_⟩, ?_⟩, ?_⟩, ?_⟩, ?_⟩, ?_⟩, ?_⟩, ?_⟩ ?_
    {
    intro ρ w Γx Λx hs hu hp
    refine WL.move (v := .slice a9 (x1.Operations).length c10) ((hu 3 rfl).trans h246_3) ?_
    exact WL.nil ⟨rfl, _, rfl, rfl, hs.cutG 0 0⟩ }
    {
    intro ρ w Γx Λx hs hu hp
    refine WL.move (v := .int .i64 x17) ((hu 4 rfl).trans h246_4) ?_
    exact WL.nil ⟨rfl, _, rfl, rfl, hs.cutG 0 0⟩ }
    {
    intro ρ w Γx Λx hs hu hp
    have e741 : ρ 54 = .slice a9 (x1.Operations).length c10 := (hp 0 rfl).1
    have e742 : ρ 55 = .int .i64 x17 := (hp 1 rfl).1
    refine WL.indexAddr hs (Γx.length + 0) (getApp rfl) UN22 TI35 e741 e742 hxx260 (fun ad261 hs => ?_)
    have hs := hs.add (it := pl t_history_Operation x260 ad261) fun ok hA => hA.get 0 rfl
    exact WL.nil ⟨rfl, _, rfl, ⟨ad261, rfl⟩, hs.cutG 1 1⟩ }
    {
    intro ρ w Γx Λx hs hu hp
    obtain ⟨⟨ad743, e744r⟩, hm745⟩ := hp 2 rfl
    have e744 : ρ 56 = .pointer (some ad743) := e744r
    rw [e744r] at hm745
    have hs := hs.memo1 (it := pl t_history_Operation x260 ad743) (List.mem_append.2 (.inl (hm745 _ (List.mem_of_getElem? (i := 0) rfl))))
    refine WL.fieldAddrP (z := x260.Call) F_history_Operation_Call hs 0 rfl e744 FA35_4 rfl (fun ad262 hs => ?_)
    have hs := hs.add (it := pl (tInt .i64) x260.Call ad262) fun ok hA => hA.get 0 rfl
    exact WL.nil ⟨rfl, _, rfl, ⟨ad262, rfl⟩, hs.cutG 1 2⟩ }
    {
    intro ρ w Γx Λx hs hu hp
    obtain ⟨⟨ad746, e747r⟩, hm748⟩ := hp 3 rfl
    have e747 : ρ 57 = .pointer (some ad746) := e747r
    rw [e747r] at hm748
    have hs := hs.memo1 (it := pl (tInt .i64) x260.Call ad746) (List.mem_append.2 (.inl (hm748 _ (List.mem_of_getElem? (i := 0) rfl))))
    refine WL.loadP hs 0 rfl TI3 (.inr rfl) e747 (fun v263 hs => ?_)
    obtain rfl := hs.int 0 rfl
    exact WL.nil ⟨rfl, _, rfl, rfl, hs.cutG 0 2⟩ }
    {
    intro ρ w Γx Λx hs hu hp
    refine WL.move (v := .slice a9 (x1.Operations).length c10) ((hu 3 rfl).trans h246_3) ?_
    exact WL.nil ⟨rfl, _, rfl, rfl, hs.cutG 0 0⟩ }
    {
    intro ρ w Γx Λx hs hu hp
    refine WL.move (v := .int .i64 x247) ((hu 7 rfl).trans h246_7) ?_
    exact WL.nil ⟨rfl, _, rfl, rfl, hs.cutG 0 0⟩ }
    {
    intro ρ w Γx Λx hs hu hp
    have e749 : ρ 59 = .slice a9 (x1.Operations).length c10 := (hp 5 rfl).1
    have e750 : ρ 60 = .int .i64 x247 := (hp 6 rfl).1
    refine WL.indexAddr hs (Γx.length + 0) (getApp rfl) UN22 TI35 e749 e750 hxx264 (fun ad265 hs => ?_)
    have hs := hs.add (it := pl t_history_Operation x264 ad265) fun ok hA => hA.get 0 rfl
    exact WL.nil ⟨rfl, _, rfl, ⟨ad265, rfl⟩, hs.cutG 1 1⟩ }
    {
    intro ρ w Γx Λx hs hu hp
    obtain ⟨⟨ad751, e752r⟩, hm753⟩ := hp 7 rfl
    have e752 : ρ 61 = .pointer (some ad751) := e752r
    rw [e752r] at hm753
    have hs := hs.memo1 (it := pl t_history_Operation x264 ad751) (List.mem_append.2 (.inl (hm753 _ (List.mem_of_getElem? (i := 0) rfl))))
    refine WL.fieldAddrP (z := x264.Return) F_history_Operation_Return hs 0 rfl e752 FA35_5 rfl (fun ad266 hs => ?_)
    have hs := hs.add (it := pl (tInt .i64) x264.Return ad266) fun ok hA => hA.get 0 rfl
    exact WL.nil ⟨rfl, _, rfl, ⟨ad266, rfl⟩, hs.cutG 1 2⟩ }
    {
    intro ρ w Γx Λx hs hu hp
    obtain ⟨⟨ad754, e755r⟩, hm756⟩ := hp 8 rfl
    have e755 : ρ 62 = .pointer (some ad754) := e755r
    rw [e755r] at hm756
    have hs := hs.memo1 (it := pl (tInt .i64) x264.Return ad754) (List.mem_append.2 (.inl (hm756 _ (List.mem_of_getElem? (i := 0) rfl))))
    refine WL.loadP hs 0 rfl TI3 (.inr rfl) e755 (fun v267 hs => ?_)
    obtain rfl := hs.int 0 rfl
    exact WL.nil ⟨rfl, _, rfl, rfl, hs.cutG 0 2⟩ }
    {
    intro ρ w Γx Λx hs hu hp
    have e757 : ρ 58 = .int .i64 x260.Call := (hp 4 rfl).1
    have e758 : ρ 63 = .int .i64 x264.Return := (hp 9 rfl).1
    refine WL.bin (v := .bool (x260.Call == x264.Return)) e757 e758 (ib_eql _ _ _) ?_
    exact WL.nil ⟨rfl, _, rfl, rfl, hs.cutG 0 0⟩ }
    {
    intro ρ w Γx Λx hs hu hp
    have e759 : ρ 64 = .bool (x260.Call == x264.Return) := (hp 10 rfl).1
    refine WL.move (v := .bool (x260.Call == x264.Return)) e759 ?_
    exact WL.nil ⟨rfl, _, rfl, rfl, hs.cutG 0 0⟩ }
    {
    intro ρ w Γx Λx hs hu hp
    have e760 : ρ 65 = .bool (x260.Call == x264.Return) := (hp 11 rfl).1
    refine WL.move (v := .slice a9 (x1.Operations).length c10) ((hu 3 rfl).trans h246_3) ?_ (hg := (wanted_of rfl rfl (bool_tr e760 hc268)).trans rfl)
    exact WL.nil ⟨rfl, _, rfl, rfl, hs.cutG 0 0⟩ }
    {
    intro ρ w Γx Λx hs hu hp
    have e761 : ρ 65 = .bool (x260.Call == x264.Return) := (hp 11 rfl).1
    refine WL.move (v := .int .i64 x17) ((hu 4 rfl).trans h246_4) ?_ (hg := (wanted_of rfl rfl (bool_tr e761 hc268)).trans rfl)
    exact WL.nil ⟨rfl, _, rfl, rfl, hs.cutG 0 0⟩ }
    {
    intro ρ w Γx Λx hs hu hp
    have e762 : ρ 66 = .slice a9 (x1.Operations).length c10 := (hp 12 rfl).1
    have e763 : ρ 67 = .int .i64 x17 := (hp 13 rfl).1
    have e764 : ρ 65 = .bool (x260.Call == x264.Return) := (hp 11 rfl).1
    refine WL.indexAddr hs (Γx.length + 0) (getApp rfl) UN22 TI35 e762 e763 hxx403 (fun ad404 hs => ?_) (hg := (wanted_of rfl rfl (bool_tr e764 hc268)).trans rfl)
    have hs := hs.add (it := pl t_history_Operation x403 ad404) fun ok hA => hA.get 0 rfl
    exact WL.nil ⟨rfl, _, rfl, ⟨ad404, rfl⟩, hs.cutG 1 1⟩ }
    {
    intro ρ w Γx Λx hs hu hp
    obtain ⟨⟨ad765, e766r⟩, hm767⟩ := hp 14 rfl
    have e766 : ρ 68 = .pointer (some ad765) := e766r
    rw [e766r] at hm767
    have hs := hs.memo1 (it := pl t_history_Operation x403 ad765) (List.mem_append.2 (.inl (hm767 _ (List.mem_of_getElem? (i := 0) rfl))))
    have e768 : ρ 65 = .bool (x260.Call == x264.Return) := (hp 11 rfl).1
    refine WL.fieldAddrP (z := x403.Return) F_history_Operation_Return hs 0 rfl e766 FA35_5 rfl (fun ad405 hs => ?_) (hg := (wanted_of rfl rfl (bool_tr e768 hc268)).trans rfl)
    have hs := hs.add (it := pl (tInt .i64) x403.Return ad405) fun ok hA => hA.get 0 rfl
    exact WL.nil ⟨rfl, _, rfl, ⟨ad405, rfl⟩, hs.cutG 1 2⟩ }
    {
    intro ρ w Γx Λx hs hu hp
    obtain ⟨⟨ad769, e770r⟩, hm771⟩ := hp 15 rfl
    have e770 : ρ 69 = .pointer (some ad769) := e770r
    rw [e770r] at hm771
    have hs := hs.memo1 (it := pl (tInt .i64) x403.Return ad769) (List.mem_append.2 (.inl (hm771 _ (List.mem_of_getElem? (i := 0) rfl))))
    have e772 : ρ 65 = .bool (x260.Call == x264.Return) := (hp 11 rfl).1
    refine WL.loadP hs 0 rfl TI3 (.inr rfl) e770 (fun v406 hs => ?_) (hg := (wanted_of rfl rfl (bool_tr e772 hc268)).trans rfl)
    obtain rfl := hs.int 0 rfl
    exact WL.nil ⟨rfl, _, rfl, rfl, hs.cutG 0 2⟩ }
    {
    intro ρ w Γx Λx hs hu hp
    have e773 : ρ 70 = .int .i64 x403.Return := (hp 16 rfl).1
    have e774 : ρ 65 = .bool (x260.Call == x264.Return) := (hp 11 rfl).1
    refine WL.bin (v := .bool (x403.Return != 0)) e773 rfl (ib_neq _ _ _) ?_ (hg := (wanted_of rfl rfl (bool_tr e774 hc268)).trans rfl)
    exact WL.nil ⟨rfl, _, rfl, rfl, hs.cutG 0 0⟩ }
    {
    intro ρ w Γx Λx hs hu hp
    have e775 : ρ 71 = .bool (x403.Return != 0) := (hp 17 rfl).1
    have e776 : ρ 65 = .bool (x260.Call == x264.Return) := (hp 11 rfl).1
    refine WL.move (v := .bool (x403.Return != 0)) e775 ?_ (hg := (wanted_of rfl rfl (bool_tr e776 hc268)).trans rfl)
    exact WL.nil ⟨rfl, _, rfl, rfl, hs.cutG 0 0⟩ }
    {
    intro ρ w Γx Λx hs hu hp
    have e777 : ρ 72 = .bool (x403.Return != 0) := (hp 18 rfl).1
    refine WL.pass ((wanted_of rfl rfl (bool_tr e777 hc407)).trans rfl) rfl ?_
    exact WL.nil ⟨rfl, _, rfl, rfl, hs.cutG 0 0⟩ }
    {
    intro ρ w Γx Λx hs hu hp
    have e778 : ρ 72 = .bool (x403.Return != 0) := (hp 18 rfl).1
    refine WL.pass ((wanted_of rfl rfl (bool_tr e778 hc407)).trans rfl) rfl ?_
    exact WL.nil ⟨rfl, _, rfl, rfl, hs.cutG 0 0⟩ }
    {
    intro ρ w Γx Λx hs hu hp
    have e779 : ρ 73 = undef := (hp 19 rfl).1
    have e780 : ρ 74 = undef := (hp 20 rfl).1
    have e781 : ρ 72 = .bool (x403.Return != 0) := (hp 18 rfl).1
    refine WL.pass ((wanted_of rfl rfl (bool_tr e781 hc407)).trans rfl) rfl ?_
    exact WL.nil ⟨rfl, _, rfl, rfl, hs.cutG 0 0⟩ }
    {
    intro ρ w Γx Λx hs hu hp
    have e782 : ρ 75 = undef := (hp 21 rfl).1
    have e783 : ρ 72 = .bool (x403.Return != 0) := (hp 18 rfl).1
    refine WL.pass ((wanted_of rfl rfl (bool_tr e783 hc407)).trans rfl) rfl ?_
    exact WL.nil ⟨rfl, _, rfl, rfl, hs.cutG 0 0⟩ }
    {
    intro ρ w Γx Λx hs hu hp
    have e784 : ρ 76 = undef := (hp 22 rfl).1
    have e785 : ρ 72 = .bool (x403.Return != 0) := (hp 18 rfl).1
    refine WL.pass ((wanted_of rfl rfl (bool_tr e785 hc407)).trans rfl) rfl ?_
    exact WL.nil ⟨rfl, _, rfl, rfl, hs.cutG 0 0⟩ }
    {
    intro ρ w Γx Λx hs hu hp
    have e786 : ρ 72 = .bool (x403.Return != 0) := (hp 18 rfl).1
    refine WL.pass ((wanted_of rfl rfl (bool_tr e786 hc407)).trans rfl) rfl ?_
    exact WL.nil ⟨rfl, _, rfl, rfl, hs.cutG 0 0⟩ }
    {
    intro ρ w Γx Λx hs hu hp
    have e787 : ρ 72 = .bool (x403.Return != 0) := (hp 18 rfl).1
    refine WL.pass ((wanted_of rfl rfl (bool_tr e787 hc407)).trans rfl) rfl ?_
    exact WL.nil ⟨rfl, _, rfl, rfl, hs.cutG 0 0⟩ }
    {
    intro ρ w Γx Λx hs hu hp
    have e788 : ρ 78 = undef := (hp 24 rfl).1
    have e789 : ρ 79 = undef := (hp 25 rfl).1
    have e790 : ρ 72 = .bool (x403.Return != 0) := (hp 18 rfl).1
    refine WL.pass ((wanted_of rfl rfl (bool_tr e790 hc407)).trans rfl) rfl ?_
    exact WL.nil ⟨rfl, _, rfl, rfl, hs.cutG 0 0⟩ }
    {
    intro ρ w Γx Λx hs hu hp
    have e791 : ρ 80 = undef := (hp 26 rfl).1
    have e792 : ρ 72 = .bool (x403.Return != 0) := (hp 18 rfl).1
    refine WL.pass ((wanted_of rfl rfl (bool_tr e792 hc407)).trans rfl) rfl ?_
    exact WL.nil ⟨rfl, _, rfl, rfl, hs.cutG 0 0⟩ }
    {
    intro ρ w Γx Λx hs hu hp
    have e793 : ρ 81 = undef := (hp 27 rfl).1
    have e794 : ρ 72 = .bool (x403.Return != 0) := (hp 18 rfl).1
    refine WL.pass ((wanted_of rfl rfl (bool_tr e794 hc407)).trans rfl) rfl ?_
    exact WL.nil ⟨rfl, _, rfl, rfl, hs.cutG 0 0⟩ }
    {
    intro ρ w Γx Λx hs hu hp
    have e795 : ρ 77 = undef := (hp 23 rfl).1
    have e796 : ρ 82 = undef := (hp 28 rfl).1
    have e797 : ρ 72 = .bool (x403.Return != 0) := (hp 18 rfl).1
    refine WL.pass ((wanted_of rfl rfl (bool_tr e797 hc407)).trans rfl) rfl ?_
    exact WL.nil ⟨rfl, _, rfl, rfl, hs.cutG 0 0⟩ }
    {
    intro ρ w Γx Λx hs hu hp
    have e798 : ρ 83 = undef := (hp 29 rfl).1
    have e799 : ρ 72 = .bool (x403.Return != 0) := (hp 18 rfl).1
    refine WL.pass ((wanted_of rfl rfl (bool_tr e799 hc407)).trans rfl) rfl ?_
    exact WL.nil ⟨rfl, _, rfl, rfl, hs.cutG 0 0⟩ }
    {
    intro ρ w Γx Λx hs hu hp
    have e800 : ρ 84 = undef := (hp 30 rfl).1
    refine WL.pass (wanted_undef rfl rfl e800) rfl ?_
    exact WL.nil ⟨rfl, _, rfl, rfl, hs.cutG 0 0⟩ }
    {
    intro ρ w Γx Λx hs hu hp
    have e801 : ρ 84 = undef := (hp 30 rfl).1
    refine WL.pass (wanted_undef rfl rfl e801) rfl ?_
    exact WL.nil ⟨rfl, _, rfl, rfl, hs.cutG 0 0⟩ }
    {
    intro ρ w Γx Λx hs hu hp
    have e802 : ρ 85 = undef := (hp 31 rfl).1
    have e803 : ρ 86 = undef := (hp 32 rfl).1
    have e804 : ρ 84 = undef := (hp 30 rfl).1
    refine WL.pass (wanted_undef rfl rfl e804) rfl ?_
    exact WL.nil ⟨rfl, _, rfl, rfl, hs.cutG 0 0⟩ }
    {
    intro ρ w Γx Λx hs hu hp
    have e805 : ρ 87 = undef := (hp 33 rfl).1
    have e806 : ρ 84 = undef := (hp 30 rfl).1
    refine WL.pass (wanted_undef rfl rfl e806) rfl ?_
    exact WL.nil ⟨rfl, _, rfl, rfl, hs.cutG 0 0⟩ }
    {
    intro ρ w Γx Λx hs hu hp
    have e807 : ρ 88 = undef := (hp 34 rfl).1
    have e808 : ρ 84 = undef := (hp 30 rfl).1
    refine WL.pass (wanted_undef rfl rfl e808) rfl ?_
    exact WL.nil ⟨rfl, _, rfl, rfl, hs.cutG 0 0⟩ }
    {
    intro ρ w Γx Λx hs hu hp
    have e809 : ρ 84 = undef := (hp 30 rfl).1
    refine WL.pass (wanted_undef rfl rfl e809) rfl ?_
    exact WL.nil ⟨rfl, _, rfl, rfl, hs.cutG 0 0⟩ }
    {
    intro ρ w Γx Λx hs hu hp
    have e810 : ρ 84 = undef := (hp 30 rfl).1
    refine WL.pass (wanted_undef rfl rfl e810) rfl ?_
    exact WL.nil ⟨rfl, _, rfl, rfl, hs.cutG 0 0⟩ }
    {
    intro ρ w Γx Λx hs hu hp
    have e811 : ρ 90 = undef := (hp 36 rfl).1
    have e812 : ρ 91 = undef := (hp 37 rfl).1
    have e813 : ρ 84 = undef := (hp 30 rfl).1
    refine WL.pass (wanted_undef rfl rfl e813) rfl ?_
    exact WL.nil ⟨rfl, _, rfl, rfl, hs.cutG 0 0⟩ }
    {
    intro ρ w Γx Λx hs hu hp
    have e814 : ρ 92 = undef := (hp 38 rfl).1
    have e815 : ρ 84 = undef := (hp 30 rfl).1
    refine WL.pass (wanted_undef rfl rfl e815) rfl ?_
    exact WL.nil ⟨rfl, _, rfl, rfl, hs.cutG 0 0⟩ }
    {
    intro ρ w Γx Λx hs hu hp
    have e816 : ρ 93 = undef := (hp 39 rfl).1
    have e817 : ρ 84 = undef := (hp 30 rfl).1
    refine WL.pass (wanted_undef rfl rfl e817) rfl ?_
    exact WL.nil ⟨rfl, _, rfl, rfl, hs.cutG 0 0⟩ }
    {
    intro ρ w Γx Λx hs hu hp
    have e818 : ρ 89 = undef := (hp 35 rfl).1
    have e819 : ρ 94 = undef := (hp 40 rfl).1
    have e820 : ρ 84 = undef := (hp 30 rfl).1
    refine WL.pass (wanted_undef rfl rfl e820) rfl ?_
    exact WL.nil ⟨rfl, _, rfl, rfl, hs.cutG 0 0⟩ }
    {
    intro ρ w Γx Λx hs hu hp
    have e821 : ρ 84 = undef := (hp 30 rfl).1
    have e822 : ρ 95 = undef := (hp 41 rfl).1
    have e823 : ρ 72 = .bool (x403.Return != 0) := (hp 18 rfl).1
    refine WL.pass ((wanted_of rfl rfl (bool_tr e823 hc407)).trans rfl) rfl ?_
    exact WL.nil ⟨rfl, _, rfl, rfl, hs.cutG 0 0⟩ }
    {
    intro ρ w Γx Λx hs hu hp
    have e824 : ρ 72 = .bool (x403.Return != 0) := (hp 18 rfl).1
    have e825 : ρ 96 = undef := (hp 42 rfl).1
    have e826 : ρ 65 = .bool (x260.Call == x264.Return) := (hp 11 rfl).1
    refine WL.pickF (v := .bool false) (bool_tr e824 hc407) rfl ?_ (hg := (wanted_of rfl rfl (bool_tr e826 hc268)).trans rfl)
    exact WL.nil ⟨rfl, _, rfl, rfl, hs.cutG 0 0⟩ }
    {
    intro ρ w Γx Λx hs hu hp
    have e827 : ρ 65 = .bool (x260.Call == x264.Return) := (hp 11 rfl).1
    have e828 : ρ 97 = .bool false := (hp 43 rfl).1
    refine WL.pickF (v := .bool false) (bool_tr e827 hc268) e828 ?_
    exact WL.nil ⟨rfl, _, rfl, rfl, hs.cutG 0 0⟩ }
    {
    intro ρ w hs hu829 hp
    obtain ⟨⟨⟨⟨⟨⟨⟨⟨⟨⟨⟨⟨⟨⟨⟨⟨⟨⟨⟨⟨⟨⟨⟨⟨⟨⟨⟨⟨⟨⟨⟨⟨⟨⟨⟨⟨⟨⟨⟨⟨⟨⟨⟨⟨⟨_, hp0_⟩, hp1_⟩, hp2_⟩, hp3_⟩, hp4_⟩, hp5_⟩, hp6_⟩, hp7_⟩, hp8_⟩, hp9_⟩, hp10_⟩, hp11_⟩, hp12_⟩, hp13_⟩, hp14_⟩, hp15_⟩, hp16_⟩, hp17_⟩, hp18_⟩, hp19_⟩, hp20_⟩, hp21_⟩, hp22_⟩, hp23_⟩, hp24_⟩, hp25_⟩, hp26_⟩, hp27_⟩, hp28_⟩, hp29_⟩, hp30_⟩, hp31_⟩, hp32_⟩, hp33_⟩, hp34_⟩, hp35_⟩, hp36_⟩, hp37_⟩, hp38_⟩, hp39_⟩, hp40_⟩, hp41_⟩, hp42_⟩, hp43_⟩, hp44_⟩ := hp
    have hs : St ok (bz w0) w [pl (tInt .i64) x403.Return (adOf (ρ 69)), pl t_history_Operation x403 (adOf (ρ 68)), pl (tInt .i64) x264.Return (adOf (ρ 62)), pl t_history_Operation x264 (adOf (ρ 61)), pl (tInt .i64) x260.Call (adOf (ρ 57)), pl t_history_Operation x260 (adOf (ρ 56)), vl (tSlice t_history_Operation) x1.Operations (.slice a9 (x1.Operations).length c10)] [] := hs
    have e830 : ρ 98 = .bool false := hp44_
    have e831 : ρ 97 = .bool false := hp43_
    have e832 : ρ 96 = undef := hp42_
    have e833 : ρ 95 = undef := hp41_
    have e834 : ρ 94 = undef := hp40_
    have e835 : ρ 93 = undef := hp39_
    have e836 : ρ 92 = undef := hp38_
    have e837 : ρ 91 = undef := hp37_
    have e838 : ρ 90 = undef := hp36_
    have e839 : ρ 89 = undef := hp35_
    have e840 : ρ 88 = undef := hp34_
    have e841 : ρ 87 = undef := hp33_
    have e842 : ρ 86 = undef := hp32_
    have e843 : ρ 85 = undef := hp31_
    have e844 : ρ 84 = undef := hp30_
    have e845 : ρ 83 = undef := hp29_
    have e846 : ρ 82 = undef := hp28_
    have e847 : ρ 81 = undef := hp27_
    have e848 : ρ 80 = undef := hp26_
    have e849 : ρ 79 = undef := hp25_
    have e850 : ρ 78 = undef := hp24_
    have e851 : ρ 77 = undef := hp23_
    have e852 : ρ 76 = undef := hp22_
    have e853 : ρ 75 = undef := hp21_
    have e854 : ρ 74 = undef := hp20_
    have e855 : ρ 73 = undef := hp19_
    have e856 : ρ 72 = .bool (x403.Return != 0) := hp18_
    have e857 : ρ 71 = .bool (x403.Return != 0) := hp17_
    have e858 : ρ 70 = .int .i64 x403.Return := hp16_
    obtain ⟨ad859, e860⟩ := hp15_
    have e860 : ρ 69 = .pointer (some ad859) := e860
    try rw [e860] at hs
    obtain ⟨ad861, e862⟩ := hp14_
    have e862 : ρ 68 = .pointer (some ad861) := e862
    try rw [e862] at hs
    have e863 : ρ 67 = .int .i64 x17 := hp13_
    have e864 : ρ 66 = .slice a9 (x1.Operations).length c10 := hp12_
    have e865 : ρ 65 = .bool (x260.Call == x264.Return) := hp11_
    have e866 : ρ 64 = .bool (x260.Call == x264.Return) := hp10_
    have e867 : ρ 63 = .int .i64 x264.Return := hp9_
    obtain ⟨ad868, e869⟩ := hp8_
    have e869 : ρ 62 = .pointer (some ad868) := e869
    try rw [e869] at hs
    obtain ⟨ad870, e871⟩ := hp7_
    have e871 : ρ 61 = .pointer (some ad870) := e871
    try rw [e871] at hs
    have e872 : ρ 60 = .int .i64 x247 := hp6_
    have e873 : ρ 59 = .slice a9 (x1.Operations).length c10 := hp5_
    have e874 : ρ 58 = .int .i64 x260.Call := hp4_
    obtain ⟨ad875, e876⟩ := hp3_
    have e876 : ρ 57 = .pointer (some ad875) := e876
    try rw [e876] at hs
    obtain ⟨ad877, e878⟩ := hp2_
    have e878 : ρ 56 = .pointer (some ad877) := e878
    try rw [e878] at hs
    have e879 : ρ 55 = .int .i64 x17 := hp1_
    have e880 : ρ 54 = .slice a9 (x1.Operations).length c10 := hp0_
    refine WA.done (by kernel_rfl) ?_
    exact Jk256 false _ _ ((hu829 3 rfl).trans h246_3) ((hu829 4 rfl).trans h246_4) ((hu829 7 rfl).trans h246_7) e830 ((hs.mask []).pick [6]) hf } } } }
    {
    refine W.cond_false (bool_tr rfl hc251) ?_
    refine W.exit ?_
    have hr := Option.some.inj hf; subst hr
    have hr := hbbs248 _ rfl; subst hr
    have hf := hfs248
    exact Jk57  _ _ h246_3 h246_4 ((hs.mask []).pick [0]) hf } } }
  rcases iteE hf with ⟨hc882, hf⟩ | ⟨hc882, hf⟩
  {
  obtain ⟨x883, hxx883, hf⟩ := bindE hf
  obtain ⟨x887, ex887, hf⟩ := letE hf
  obtain ⟨x888, hxx888, hf⟩ := bindE hf
  refine W.any (by kernel_rfl) 16 0 [true, true, true, true, true, true, true, true, true, true, true, true, true, true, true, true] rfl rfl (poAt [pv (.int .i64 x17), pv (.bool (decide (0 < x17))), pv (.bool (decide (0 < x17))), pv (.slice a9 (x1.Operations).length c10), pv (.int .i64 x17), pq (fun y : Addr => .pointer (some y)) (fun v => [pl t_history_Operation x883 (adOf v)]) (fun v => []), pq (fun y : Addr => .pointer (some y)) (fun v => [pl (tInt .i64) x883.Call (adOf v)]) (fun v => []), pv (.int .i64 x883.Call), pv (.slice a9 (x1.Operations).length c10), pv (.int .i64 x17), pv (.int .i64 x887), pq (fun y : Addr => .pointer (some y)) (fun v => [pl t_history_Operation x888 (adOf v)]) (fun v => []), pq (fun y : Addr => .pointer (some y)) (fun v => [pl (tInt .i64) x888.Call (adOf v)]) (fun v => []), pv (.int .i64 x888.Call), pv (.bool (decide (x883.Call ≤ x888.Call))), pv (.bool (decide (x883.Call ≤ x888.Call)))]) (Λ := []) hs (by kernel_rfl) (by kernel_rfl) (by kernel_rfl) ⟨⟨⟨⟨⟨⟨⟨⟨⟨⟨⟨⟨⟨⟨⟨⟨trivial, ?_⟩, ?_⟩, ?_⟩, ?_⟩, ?_⟩, ?_⟩, ?_⟩, ?_⟩, ?_⟩, ?_⟩, ?_⟩, ?_⟩, ?_⟩, ?_⟩, ?_⟩, ?_⟩ ?_
  {
  intro ρ w Γx Λx hs hu hp
  refine WL.move (v := .int .i64 x17) ((hu 4 rfl).trans h16_4) ?_
  exact WL.nil ⟨rfl, _, rfl, rfl, hs.cutG 0 0⟩ }
  {
  intro ρ w Γx Λx hs hu hp
  have e892 : ρ 25 = .int .i64 x17 := (hp 0 rfl).1
  refine WL.bin (v := .bool (decide (0 < x17))) e892 rfl (ib_gtr _ _ _) ?_
  exact WL.nil ⟨rfl, _, rfl, rfl, hs.cutG 0 0⟩ }
  {
  intro ρ w Γx Λx hs hu hp
  have e893 : ρ 26 = .bool (decide (0 < x17)) := (hp 1 rfl).1
  refine WL.move (v := .bool (decide (0 < x17))) e893 ?_
  exact WL.nil ⟨rfl, _, rfl, rfl, hs.cutG 0 0⟩ }
  {
  intro ρ w Γx Λx hs hu hp
  have e894 : ρ 27 = .bool (decide (0 < x17)) := (hp 2 rfl).1
  refine WL.move (v := .slice a9 (x1.Operations).length c10) ((hu 3 rfl).trans h16_3) ?_ (hg := (wanted_of rfl rfl (bool_tr e894 hc882)).trans rfl)
  exact WL.nil ⟨rfl, _, rfl, rfl, hs.cutG 0 0⟩ }
  {
  intro ρ w Γx Λx hs hu hp
  have e895 : ρ 27 = .bool (decide (0 < x17)) := (hp 2 rfl).1
  refine WL.move (v := .int .i64 x17) ((hu 4 rfl).trans h16_4) ?_ (hg := (wanted_of rfl rfl (bool_tr e895 hc882)).trans rfl)
  exact WL.nil ⟨rfl, _, rfl, rfl, hs.cutG 0 0⟩ }
  {
  intro ρ w Γx Λx hs hu hp
  have e896 : ρ 28 = .slice a9 (x1.Operations).length c10 := (hp 3 rfl).1
  have e897 : ρ 29 = .int .i64 x17 := (hp 4 rfl).1
  have e898 : ρ 27 = .bool (decide (0 < x17)) := (hp 2 rfl).1
  refine WL.indexAddr hs (Γx.length + 2) (getApp rfl) UN22 TI35 e896 e897 hxx883 (fun ad884 hs => ?_) (hg := (wanted_of rfl rfl (bool_tr e898 hc882)).trans rfl)
  have hs := hs.add (it := pl t_history_Operation x883 ad884) fun ok hA => hA.get 0 rfl
  exact WL.nil ⟨rfl, _, rfl, ⟨ad884, rfl⟩, hs.cutG 1 1⟩ }
  {
  intro ρ w Γx Λx hs hu hp
  obtain ⟨⟨ad899, e900r⟩, hm901⟩ := hp 5 rfl
  have e900 : ρ 30 = .pointer (some ad899) := e900r
  rw [e900r] at hm901
  have hs := hs.memo1 (it := pl t_history_Operation x883 ad899) (List.mem_append.2 (.inl (hm901 _ (List.mem_of_getElem? (i := 0) rfl))))
  have e902 : ρ 27 = .bool (decide (0 < x17)) := (hp 2 rfl).1
  refine WL.fieldAddrP (z := x883.Call) F_history_Operation_Call hs 0 rfl e900 FA35_4 rfl (fun ad885 hs => ?_) (hg := (wanted_of rfl rfl (bool_tr e902 hc882)).trans rfl)
  have hs := hs.add (it := pl (tInt .i64) x883.Call ad885) fun ok hA => hA.get 0 rfl
  exact WL.nil ⟨rfl, _, rfl, ⟨ad885, rfl⟩, hs.cutG 1 2⟩ }
  {
  intro ρ w Γx Λx hs hu hp
  obtain ⟨⟨ad903, e904r⟩, hm905⟩ := hp 6 rfl
  have e904 : ρ 31 = .pointer (some ad903) := e904r
  rw [e904r] at hm905
  have hs := hs.memo1 (it := pl (tInt .i64) x883.Call ad903) (List.mem_append.2 (.inl (hm905 _ (List.mem_of_getElem? (i := 0) rfl))))
  have e906 : ρ 27 = .bool (decide (0 < x17)) := (hp 2 rfl).1
  refine WL.loadP hs 0 rfl TI3 (.inr rfl) e904 (fun v886 hs => ?_) (hg := (wanted_of rfl rfl (bool_tr e906 hc882)).trans rfl)
  obtain rfl := hs.int 0 rfl
  exact WL.nil ⟨rfl, _, rfl, rfl, hs.cutG 0 2⟩ }
  {
  intro ρ w Γx Λx hs hu hp
  have e907 : ρ 27 = .bool (decide (0 < x17)) := (hp 2 rfl).1
  refine WL.move (v := .slice a9 (x1.Operations).length c10) ((hu 3 rfl).trans h16_3) ?_ (hg := (wanted_of rfl rfl (bool_tr e907 hc882)).trans rfl)
  exact WL.nil ⟨rfl, _, rfl, rfl, hs.cutG 0 0⟩ }
  {
  intro ρ w Γx Λx hs hu hp
  have e908 : ρ 27 = .bool (decide (0 < x17)) := (hp 2 rfl).1
  refine WL.move (v := .int .i64 x17) ((hu 4 rfl).trans h16_4) ?_ (hg := (wanted_of rfl rfl (bool_tr e908 hc882)).trans rfl)
  exact WL.nil ⟨rfl, _, rfl, rfl, hs.cutG 0 0⟩ }
  {
  intro ρ w Γx Λx hs hu hp
  have e909 : ρ 34 = .int .i64 x17 := (hp 9 rfl).1
  have e910 : ρ 27 = .bool (decide (0 < x17)) := (hp 2 rfl).1
  refine WL.bin (v := .int .i64 x887) e909 rfl (ib_as ex887 (ib_sub _ _ _)) ?_ (hg := (wanted_of rfl rfl (bool_tr e910 hc882)).trans rfl)
  exact WL.nil ⟨rfl, _, rfl, rfl, hs.cutG 0 0⟩ }
  {
  intro ρ w Γx Λx hs hu hp
  have e911 : ρ 33 = .slice a9 (x1.Operations).length c10 := (hp 8 rfl).1
  have e912 : ρ 35 = .int .i64 x887 := (hp 10 rfl).1
  have e913 : ρ 27 = .bool (decide (0 < x17)) := (hp 2 rfl).1
  refine WL.indexAddr hs (Γx.length + 2) (getApp rfl) UN22 TI35 e911 e912 hxx888 (fun ad889 hs => ?_) (hg := (wanted_of rfl rfl (bool_tr e913 hc882)).trans rfl)
  have hs := hs.add (it := pl t_history_Operation x888 ad889) fun ok hA => hA.get 0 rfl
  exact WL.nil ⟨rfl, _, rfl, ⟨ad889, rfl⟩, hs.cutG 1 1⟩ }
  {
  intro ρ w Γx Λx hs hu hp
  obtain ⟨⟨ad914, e915r⟩, hm916⟩ := hp 11 rfl
  have e915 : ρ 36 = .pointer (some ad914) := e915r
  rw [e915r] at hm916
  have hs := hs.memo1 (it := pl t_history_Operation x888 ad914) (List.mem_append.2 (.inl (hm916 _ (List.mem_of_getElem? (i := 0) rfl))))
  have e917 : ρ 27 = .bool (decide (0 < x17)) := (hp 2 rfl).1
  refine WL.fieldAddrP (z := x888.Call) F_history_Operation_Call hs 0 rfl e915 FA35_4 rfl (fun ad890 hs => ?_) (hg := (wanted_of rfl rfl (bool_tr e917 hc882)).trans rfl)
  have hs := hs.add (it := pl (tInt .i64) x888.Call ad890) fun ok hA => hA.get 0 rfl
  exact WL.nil ⟨rfl, _, rfl, ⟨ad890, rfl⟩, hs.cutG 1 2⟩ }
  {
  intro ρ w Γx Λx hs hu hp
  obtain ⟨⟨ad918, e919r⟩, hm920⟩ := hp 12 rfl
  have e919 : ρ 37 = .pointer (some ad918) := e919r
  rw [e919r] at hm920
  have hs := hs.memo1 (it := pl (tInt .i64) x888.Call ad918) (List.mem_append.2 (.inl (hm920 _ (List.mem_of_getElem? (i := 0) rfl))))
  have e921 : ρ 27 = .bool (decide (0 < x17)) := (hp 2 rfl).1
  refine WL.loadP hs 0 rfl TI3 (.inr rfl) e919 (fun v891 hs => ?_) (hg := (wanted_of rfl rfl (bool_tr e921 hc882)).trans rfl)
  obtain rfl := hs.int 0 rfl
  exact WL.nil ⟨rfl, _, rfl, rfl, hs.cutG 0 2⟩ }
  {
  intro ρ w Γx Λx hs hu hp
  have e922 : ρ 32 = .int .i64 x883.Call := (hp 7 rfl).1
  have e923 : ρ 38 = .int .i64 x888.Call := (hp 13 rfl).1
  have e924 : ρ 27 = .bool (decide (0 < x17)) := (hp 2 rfl).1
  refine WL.bin (v := .bool (decide (x883.Call ≤ x888.Call))) e922 e923 (ib_leq _ _ _) ?_ (hg := (wanted_of rfl rfl (bool_tr e924 hc882)).trans rfl)
  exact WL.nil ⟨rfl, _, rfl, rfl, hs.cutG 0 0⟩ }
  {
  intro ρ w Γx Λx hs hu hp
  have e925 : ρ 27 = .bool (decide (0 < x17)) := (hp 2 rfl).1
  have e926 : ρ 39 = .bool (decide (x883.Call ≤ x888.Call)) := (hp 14 rfl).1
  refine WL.pickT (v := .bool (decide (x883.Call ≤ x888.Call))) (bool_tr e925 hc882) e926 ?_
  exact WL.nil ⟨rfl, _, rfl, rfl, hs.cutG 0 0⟩ }
  {
  intro ρ w hs hu927 hp
  obtain ⟨⟨⟨⟨⟨⟨⟨⟨⟨⟨⟨⟨⟨⟨⟨⟨_, hp0_⟩, hp1_⟩, hp2_⟩, hp3_⟩, hp4_⟩, hp5_⟩, hp6_⟩, hp7_⟩, hp8_⟩, hp9_⟩, hp10_⟩, hp11_⟩, hp12_⟩, hp13_⟩, hp14_⟩, hp15_⟩ := hp
  have hs : St ok (bz w0) w [pl (tInt .i64) x888.Call (adOf (ρ 37)), pl t_history_Operation x888 (adOf (ρ 36)), pl (tInt .i64) x883.Call (adOf (ρ 31)), pl t_history_Operation x883 (adOf (ρ 30)), vl t_history_Operation x28 (.agg cs31.toArray), pl t_history_Operation x28 ad29, vl (tSlice t_history_Operation) x1.Operations (.slice a9 (x1.Operations).length c10)] [] := hs
  have e928 : ρ 40 = .bool (decide (x883.Call ≤ x888.Call)) := hp15_
  have e929 : ρ 39 = .bool (decide (x883.Call ≤ x888.Call)) := hp14_
  have e930 : ρ 38 = .int .i64 x888.Call := hp13_
  obtain ⟨ad931, e932⟩ := hp12_
  have e932 : ρ 37 = .pointer (some ad931) := e932
  try rw [e932] at hs
  obtain ⟨ad933, e934⟩ := hp11_
  have e934 : ρ 36 = .pointer (some ad933) := e934
  try rw [e934] at hs
  have e935 : ρ 35 = .int .i64 x887 := hp10_
  have e936 : ρ 34 = .int .i64 x17 := hp9_
  have e937 : ρ 33 = .slice a9 (x1.Operations).length c10 := hp8_
  have e938 : ρ 32 = .int .i64 x883.Call := hp7_
  obtain ⟨ad939, e940⟩ := hp6_
  have e940 : ρ 31 = .pointer (some ad939) := e940
  try rw [e940] at hs
  obtain ⟨ad941, e942⟩ := hp5_
  have e942 : ρ 30 = .pointer (some ad941) := e942
  try rw [e942] at hs
  have e943 : ρ 29 = .int .i64 x17 := hp4_
  have e944 : ρ 28 = .slice a9 (x1.Operations).length c10 := hp3_
  have e945 : ρ 27 = .bool (decide (0 < x17)) := hp2_
  have e946 : ρ 26 = .bool (decide (0 < x17)) := hp1_
  have e947 : ρ 25 = .int .i64 x17 := hp0_
  refine WA.done (by kernel_rfl) ?_
  exact Jk41 (decide (x883.Call ≤ x888.Call)) _ _ ((hu927 3 rfl).trans h16_3) ((hu927 4 rfl).trans h16_4) e928 ((hs.mask []).pick [6]) hf } }
  {
  refine W.any (by kernel_rfl) 16 0 [true, true, true, true, true, true, true, true, true, true, true, true, true, true, true, true] rfl rfl (poAt [pv (.int .i64 x17), pv (.bool (decide (0 < x17))), pv (.bool (decide (0 < x17))), pv (undef), pv (undef), pv (undef), pv (undef), pv (undef), pv (undef), pv (undef), pv (undef), pv (undef), pv (undef), pv (undef), pv (undef), pv (.bool false)]) (Λ := []) hs (by kernel_rfl) (by kernel_rfl) (by kernel_rfl) ⟨⟨⟨⟨⟨⟨⟨⟨⟨⟨⟨⟨⟨⟨⟨⟨trivial, ?_⟩, ?_⟩, ?_⟩, ?_⟩, ?_⟩, ?_⟩, ?_⟩, ?_⟩, ?_⟩, ?_⟩, ?_⟩, ?_⟩, ?_⟩, ?_⟩, ?_⟩, ?_⟩ ?_
  {
  intro ρ w Γx Λx hs hu hp
  refine WL.move (v := .int .i64 x17) ((hu 4 rfl).trans h16_4) ?_
  exact WL.nil ⟨rfl, _, rfl, rfl, hs.cutG 0 0⟩ }
  {
  intro ρ w Γx Λx hs hu hp
  have e948 : ρ 25 = .int .i64 x17 := (hp 0 rfl).1
  refine WL.bin (v := .bool (decide (0 < x17))) e948 rfl (ib_gtr _ _ _) ?_
  exact WL.nil ⟨rfl, _, rfl, rfl, hs.cutG 0 0⟩ }
  {
  intro ρ w Γx Λx hs hu hp
  have e949 : ρ 26 = .bool (decide (0 < x17)) := (hp 1 rfl).1
  refine WL.move (v := .bool (decide (0 < x17))) e949 ?_
  exact WL.nil ⟨rfl, _, rfl, rfl, hs.cutG 0 0⟩ }
  {
  intro ρ w Γx Λx hs hu hp
  have e950 : ρ 27 = .bool (decide (0 < x17)) := (hp 2 rfl).1
  refine WL.pass ((wanted_of rfl rfl (bool_tr e950 hc882)).trans rfl) rfl ?_
  exact WL.nil ⟨rfl, _, rfl, rfl, hs.cutG 0 0⟩ }
  {
  intro ρ w Γx Λx hs hu hp
  have e951 : ρ 27 = .bool (decide (0 < x17)) := (hp 2 rfl).1
  refine WL.pass ((wanted_of rfl rfl (bool_tr e951 hc882)).trans rfl) rfl ?_
  exact WL.nil ⟨rfl, _, rfl, rfl, hs.cutG 0 0⟩ }
  {
  intro ρ w Γx Λx hs hu hp
  have e952 : ρ 28 = undef := (hp 3 rfl).1
  have e953 : ρ 29 = undef := (hp 4 rfl).1
  have e954 : ρ 27 = .bool (decide (0 < x17)) := (hp 2 rfl).1
  refine WL.pass ((wanted_of rfl rfl (bool_tr e954 hc882)).trans rfl) rfl ?_
  exact WL.nil ⟨rfl, _, rfl, rfl, hs.cutG 0 0⟩ }
  {
  intro ρ w Γx Λx hs hu hp
  have e955 : ρ 30 = undef := (hp 5 rfl).1
  have e956 : ρ 27 = .bool (decide (0 < x17)) := (hp 2 rfl).1
  refine WL.pass ((wanted_of rfl rfl (bool_tr e956 hc882)).trans rfl) rfl ?_
  exact WL.nil ⟨rfl, _, rfl, rfl, hs.cutG 0 0⟩ }
  {
  intro ρ w Γx Λx hs hu hp
  have e957 : ρ 31 = undef := (hp 6 rfl).1
  have e958 : ρ 27 = .bool (decide (0 < x17)) := (hp 2 rfl).1
  refine WL.pass ((wanted_of rfl rfl (bool_tr e958 hc882)).trans rfl) rfl ?_
  exact WL.nil ⟨rfl, _, rfl, rfl, hs.cutG 0 0⟩ }
  {
  intro ρ w Γx Λx hs hu hp
  have e959 : ρ 27 = .bool (decide (0 < x17)) := (hp 2 rfl).1
  refine WL.pass ((wanted_of rfl rfl (bool_tr e959 hc882)).trans rfl) rfl ?_
  exact WL.nil ⟨rfl, _, rfl, rfl, hs.cutG 0 0⟩ }
  {
  intro ρ w Γx Λx hs hu hp
  have e960 : ρ 27 = .bool (decide (0 < x17)) := (hp 2 rfl).1
  refine WL.pass ((wanted_of rfl rfl (bool_tr e960 hc882)).trans rfl) rfl ?_
  exact WL.nil ⟨rfl, _, rfl, rfl, hs.cutG 0 0⟩ }
  {
  intro ρ w Γx Λx hs hu hp
  have e961 : ρ 34 = undef := (hp 9 rfl).1
  have e962 : ρ 27 = .bool (decide (0 < x17)) := (hp 2 rfl).1
  refine WL.pass ((wanted_of rfl rfl (bool_tr e962 hc882)).trans rfl) rfl ?_
  exact WL.nil ⟨rfl, _, rfl, rfl, hs.cutG 0 0⟩ }
  {
  intro ρ w Γx Λx hs hu hp
  have e963 : ρ 33 = undef := (hp 8 rfl).1
  have e964 : ρ 35 = undef := (hp 10 rfl).1
  have e965 : ρ 27 = .bool (decide (0 < x17)) := (hp 2 rfl).1
  refine WL.pass ((wanted_of rfl rfl (bool_tr e965 hc882)).trans rfl) rfl ?_
  exact WL.nil ⟨rfl, _, rfl, rfl, hs.cutG 0 0⟩ }
  {
  intro ρ w Γx Λx hs hu hp
  have e966 : ρ 36 = undef := (hp 11 rfl).1
  have e967 : ρ 27 = .bool (decide (0 < x17)) := (hp 2 rfl).1
  refine WL.pass ((wanted_of rfl rfl (bool_tr e967 hc882)).trans rfl) rfl ?_
  exact WL.nil ⟨rfl, _, rfl, rfl, hs.cutG 0 0⟩ }
  {
  intro ρ w Γx Λx hs hu hp
  have e968 : ρ 37 = undef := (hp 12 rfl).1
  have e969 : ρ 27 = .bool (decide (0 < x17)) := (hp 2 rfl).1
  refine WL.pass ((wanted_of rfl rfl (bool_tr e969 hc882)).trans rfl) rfl ?_
  exact WL.nil ⟨rfl, _, rfl, rfl, hs.cutG 0 0⟩ }
  {
  intro ρ w Γx Λx hs hu hp
  have e970 : ρ 32 = undef := (hp 7 rfl).1
  have e971 : ρ 38 = undef := (hp 13 rfl).1
  have e972 : ρ 27 = .bool (decide (0 < x17)) := (hp 2 rfl).1
  refine WL.pass ((wanted_of rfl rfl (bool_tr e972 hc882)).trans rfl) rfl ?_
  exact WL.nil ⟨rfl, _, rfl, rfl, hs.cutG 0 0⟩ }
  {
  intro ρ w Γx Λx hs hu hp
  have e973 : ρ 27 = .bool (decide (0 < x17)) := (hp 2 rfl).1
  have e974 : ρ 39 = undef := (hp 14 rfl).1
  refine WL.pickF (v := .bool false) (bool_tr e973 hc882) rfl ?_
  exact WL.nil ⟨rfl, _, rfl, rfl, hs.cutG 0 0⟩ }
  {
  intro ρ w hs hu975 hp
  obtain ⟨⟨⟨⟨⟨⟨⟨⟨⟨⟨⟨⟨⟨⟨⟨⟨_, hp0_⟩, hp1_⟩, hp2_⟩, hp3_⟩, hp4_⟩, hp5_⟩, hp6_⟩, hp7_⟩, hp8_⟩, hp9_⟩, hp10_⟩, hp11_⟩, hp12_⟩, hp13_⟩, hp14_⟩, hp15_⟩ := hp
  have hs : St ok (bz w0) w [vl t_history_Operation x28 (.agg cs31.toArray), pl t_history_Operation x28 ad29, vl (tSlice t_history_Operation) x1.Operations (.slice a9 (x1.Operations).length c10)] [] := hs
  have e976 : ρ 40 = .bool false := hp15_
  have e977 : ρ 39 = undef := hp14_
  have e978 : ρ 38 = undef := hp13_
  have e979 : ρ 37 = undef := hp12_
  have e980 : ρ 36 = undef := hp11_
  have e981 : ρ 35 = undef := hp10_
  have e982 : ρ 34 = undef := hp9_
  have e983 : ρ 33 = undef := hp8_
  have e984 : ρ 32 = undef := hp7_
  have e985 : ρ 31 = undef := hp6_
  have e986 : ρ 30 = undef := hp5_
  have e987 : ρ 29 = undef := hp4_
  have e988 : ρ 28 = undef := hp3_
  have e989 : ρ 27 = .bool (decide (0 < x17)) := hp2_
  have e990 : ρ 26 = .bool (decide (0 < x17)) := hp1_
  have e991 : ρ 25 = .int .i64 x17 := hp0_
  refine WA.done (by kernel_rfl) ?_
  exact Jk41 false _ _ ((hu975 3 rfl).trans h16_3) ((hu975 4 rfl).trans h16_4) e976 ((hs.mask []).pick [2]) hf } } } }
  {
  refine W.cond_false (bool_tr rfl hc21) ?_
  refine W.exit ?_
  have hr := Option.some.inj hf; subst hr
  have hr := hbbs18 _ rfl; subst hr
  have hf := hfs18
  exact Jk13  _ _  ((hs.mask []).pick []) hf }
end Go.Proofs.Ytbbeobiampbddaa
