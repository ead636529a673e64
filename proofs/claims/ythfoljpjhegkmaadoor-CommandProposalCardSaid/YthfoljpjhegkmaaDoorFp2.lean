import Derived.Test.YthfoljpjhegkmaaDoorFh
import Derived.Test.YthfoljpjhegkmaaDoorFp1
set_option linter.unusedVariables false
set_option linter.unusedSimpArgs false
namespace Go.Proofs.YthfoljpjhegkmaaDoor
open Go Go.RowKit Go.Proofs.YthfoljpjhegkmaaDoorL
set_option maxRecDepth 100000
set_option maxHeartbeats 4000000
/-! elasticstore/proposal.ValidateChange: function 25 -/
theorem proposal_ValidateChange.calls {ok : Nat → Prop} {w0 : World} {x1 : api_Change} {v2 : Value} {r : Int} (hf : proposal_ValidateChange x1 = some r) (i0 : (vl t_api_Change x1 v2).holds ok w0) :
    Calls Tryd.prog 25 #[v2] w0 fun e w' => ∃ v, e = .returned v ∧ ∃ y : Unit, v = .int .i64 r ∧ St ok (bz w0) w' [] [] := by
  unfold proposal_ValidateChange at hf
  refine calls_of_W (fn := Tryd.f25) (N := 59) Tryd.func25 rfl Tryd.ntmps25 rfl ?_
  have hs : St ok (bz w0) w0 [vl t_api_Change x1 v2] [] := St.init (All.cons i0 All.nil)
  clear i0
  obtain ⟨cs3, hl4, rfl⟩ := hs.aggv (n := 7) 0 rfl rfl rfl
  refine W.seqK fun K5 hK5 => ?_
  refine W.region ?_
  refine WL.box (vs := cs3) hs rfl rfl (fun g6 w hs => ?_)
  refine WL.assign (v := .int .i64 0) rfl ?_
  refine WL.nil ?_
  refine hK5 _ _ ?_
  refine W.seqK fun K7 hK7 => ?_
  refine W.seqK fun K8 hK8 => ?_
  have Jk11 : ∀ (x10 : Bool) (ρ : Env) (w : World), ρ 1 = .pointer (some ⟨g6, 0, none⟩) → ρ 13 = .bool x10 → St ok (bz w0) w [vl t_api_Change x1 (.agg cs3.toArray)] [blk g6 26 cs3] → proposal_ValidateChange.j4 x1 x10 = some r → K8 ρ w := by
    intro x10 ρ w h9_1 h9_13 hs hf
    refine hK8 _ _ ?_
    unfold proposal_ValidateChange.j4 at hf
    rcases iteE hf with ⟨hc12, hf⟩ | ⟨hc12, hf⟩
    {
    refine W.cond_true (bool_tr h9_13 hc12) ?_
    refine W.seqK fun K13 hK13 => ?_
    refine W.region ?_
    refine WL.assign (v := .int .i64 10) rfl ?_
    refine WL.nil ?_
    refine hK13 _ _ ?_
    refine W.ret ?_
    have hr := Option.some.inj hf; subst hr
    exact ⟨_, resOk_one rfl rfl, (), rfl, (hs.mask []).pick []⟩ }
    {
    refine W.cond_false (bool_tr h9_13 hc12) ?_
    refine W.skip ?_
    refine hK7 _ _ ?_
    refine W.seqK fun K14 hK14 => ?_
    refine W.region ?_
    refine WL.fieldAddr (m := 0) h9_1 FA26_0 rfl ?_
    refine WL.loadF (z := x1.Kind) F_api_Change_Kind hs 0 rfl 0 rfl rfl TI3 (.inr rfl) rfl rfl (fun v15 hs => ?_)
    obtain rfl := hs.int 0 rfl
    refine WL.bin (v := .bool (x1.Kind == 4)) rfl rfl (ib_eql _ _ _) ?_
    refine WL.assign (v := .bool (x1.Kind == 4)) rfl ?_
    refine WL.nil ?_
    refine hK14 _ _ ?_
    refine W.seqK fun K16 hK16 => ?_
    have Jk19 : ∀ (x18 : Bool) (ρ : Env) (w : World), ρ 1 = .pointer (some ⟨g6, 0, none⟩) → ρ 3 = .bool (x1.Kind == 4) → ρ 4 = .bool x18 → St ok (bz w0) w [vl t_api_Change x1 (.agg cs3.toArray)] [blk g6 26 cs3] → proposal_ValidateChange.j3 x1 x18 = some r → K16 ρ w := by
      intro x18 ρ w h17_1 h17_3 h17_4 hs hf
      refine hK16 _ _ ?_
      unfold proposal_ValidateChange.j3 at hf
      refine W.seqK fun K20 hK20 => ?_
      have Jk23 : ∀ (x22 : Bool) (ρ : Env) (w : World), ρ 1 = .pointer (some ⟨g6, 0, none⟩) → ρ 3 = .bool (x1.Kind == 4) → ρ 4 = .bool x18 → ρ 5 = .bool x22 → St ok (bz w0) w [vl t_api_Change x1 (.agg cs3.toArray)] [blk g6 26 cs3] → proposal_ValidateChange.j2 x1 x18 x22 = some r → K20 ρ w := by
        intro x22 ρ w h21_1 h21_3 h21_4 h21_5 hs hf
        refine hK20 _ _ ?_
        unfold proposal_ValidateChange.j2 at hf
        refine W.seqK fun K24 hK24 => ?_
        refine W.seqK fun K25 hK25 => ?_
        have Jk28 : ∀ (x27 : Bool) (ρ : Env) (w : World), ρ 1 = .pointer (some ⟨g6, 0, none⟩) → ρ 3 = .bool (x1.Kind == 4) → ρ 50 = .bool x27 → St ok (bz w0) w [vl t_api_Change x1 (.agg cs3.toArray)] [blk g6 26 cs3] → proposal_ValidateChange.j1 x1 x27 = some r → K25 ρ w := by
          intro x27 ρ w h26_1 h26_3 h26_50 hs hf
          refine hK25 _ _ ?_
          unfold proposal_ValidateChange.j1 at hf
          rcases iteE hf with ⟨hc29, hf⟩ | ⟨hc29, hf⟩
          {
          refine W.cond_true (bool_tr h26_50 hc29) ?_
          refine W.seqK fun K30 hK30 => ?_
          refine W.region ?_
          refine WL.assign (v := .int .i64 9) rfl ?_
          refine WL.nil ?_
          refine hK30 _ _ ?_
          refine W.ret ?_
          have hr := Option.some.inj hf; subst hr
          exact ⟨_, resOk_one rfl rfl, (), rfl, (hs.mask []).pick []⟩ }
          {
          refine W.cond_false (bool_tr h26_50 hc29) ?_
          refine W.skip ?_
          refine hK24 _ _ ?_
          refine W.seqK fun K31 hK31 => ?_
          refine W.seqK fun K32 hK32 => ?_
          refine W.region ?_
          refine WL.move (v := .bool (x1.Kind == 4)) h26_3 ?_
          refine WL.nil ?_
          refine hK32 _ _ ?_
          rcases iteE hf with ⟨hc33, hf⟩ | ⟨hc33, hf⟩
          {
          refine W.cond_true (bool_tr rfl hc33) ?_
          refine W.seqK fun K34 hK34 => ?_
          refine W.region ?_
          refine WL.fieldAddr (m := 4) h26_1 FA26_4 rfl ?_
          refine WL.loadF (z := x1.Rule) F_api_Change_Rule hs 0 rfl 0 rfl rfl TI24 (.inl rfl) rfl rfl (fun v35 hs => ?_)
          obtain ⟨cs36, hl37, rfl⟩ := hs.aggv (n := 3) 0 rfl rfl rfl
          obtain ⟨x38, hxx38, hf⟩ := bindE hf
          refine WL.call (vs := [.agg cs36.toArray]) hs FN50 ⟨rfl, trivial⟩ (fun ok hA => quorum_ValidateRule.calls (x1 := x1.Rule) hxx38 (hA.get 0 rfl)) ?_
          rintro _ w hs
          refine WL.assign (v := .int .i64 x38) rfl ?_
          refine WL.nil ?_
          refine hK34 _ _ ?_
          refine W.ret ?_
          have hr := Option.some.inj hf; subst hr
          exact ⟨_, resOk_one rfl rfl, (), rfl, (hs.mask []).pick []⟩ }
          {
          refine W.cond_false (bool_tr rfl hc33) ?_
          refine W.skip ?_
          refine hK31 _ _ ?_
          refine W.seqK fun K39 hK39 => ?_
          refine W.seqK fun K40 hK40 => ?_
          refine W.region ?_
          refine WL.fieldAddr (m := 4) h26_1 FA26_4 rfl ?_
          refine WL.loadF (z := x1.Rule) F_api_Change_Rule hs 0 rfl 0 rfl rfl TI24 (.inl rfl) rfl rfl (fun v41 hs => ?_)
          obtain ⟨cs42, hl43, rfl⟩ := hs.aggv (n := 3) 0 rfl rfl rfl
          refine WL.build (vs := []) (cs := [.int .i64 0, .int .i64 0, .int .i64 0]) trivial (bld PL24 rfl) ?_
          obtain rfl := open_api_Rule hs 0 rfl
          refine WL.eqA rfl rfl EG24 (NQ24 (⟨x1.Rule.Kind, x1.Rule.Columns, x1.Rule.Faulty⟩ : api_Rule) (⟨0, 0, 0⟩ : api_Rule)) ?_
          refine WL.nil ?_
          refine hK40 _ _ ?_
          rcases iteE hf with ⟨hc44, hf⟩ | ⟨hc44, hf⟩
          {
          refine W.cond_true (bool_tr rfl hc44) ?_
          refine W.seqK fun K45 hK45 => ?_
          refine W.region ?_
          refine WL.assign (v := .int .i64 2) rfl ?_
          refine WL.nil ?_
          refine hK45 _ _ ?_
          refine W.ret ?_
          have hr := Option.some.inj hf; subst hr
          exact ⟨_, resOk_one rfl rfl, (), rfl, (hs.mask []).pick []⟩ }
          {
          refine W.cond_false (bool_tr rfl hc44) ?_
          refine W.skip ?_
          refine hK39 _ _ ?_
          refine W.seqK fun K46 hK46 => ?_
          refine W.region ?_
          refine WL.assign (v := .int .i64 0) rfl ?_
          refine WL.nil ?_
          refine hK46 _ _ ?_
          refine W.ret ?_
          have hr := Option.some.inj hf; subst hr
          exact ⟨_, resOk_one rfl rfl, (), rfl, (hs.mask []).pick []⟩ } } }
        refine W.region ?_
        refine WL.fieldAddr (m := 1) h21_1 FA26_1 rfl ?_
        refine WL.loadF (z := x1.Server) F_api_Change_Server hs 0 rfl 0 rfl rfl TI3 (.inr rfl) rfl rfl (fun v47 hs => ?_)
        obtain rfl := hs.int 0 rfl
        refine WL.move (v := .bool (x1.Kind == 4)) h21_3 ?_
        refine WL.not rfl ?_
        obtain ⟨x48, hxx48, hf⟩ := bindE hf
        refine WL.call (vs := [.int .i64 x1.Server, .int .i64 1, .int .i64 12, .bool (!(x1.Kind == 4))]) hs FN49 ⟨rfl, ⟨rfl, ⟨rfl, ⟨rfl, trivial⟩⟩⟩⟩ (fun ok hA => proposal_within.calls (x1 := x1.Server) (x2 := 1) (x3 := 12) (x4 := (!(x1.Kind == 4))) hxx48) ?_
        rintro _ w hs
        refine WL.not rfl ?_
        refine WL.move (v := .bool (!x48)) rfl ?_
        rcases iteE hf with ⟨hc49, hf⟩ | ⟨hc49, hf⟩
        {
        refine WL.pass ((wanted_of rfl rfl (bool_tr rfl hc49)).trans rfl) rfl ?_
        refine WL.pass ((wanted_of rfl rfl (bool_tr rfl hc49)).trans rfl) rfl ?_
        refine WL.pass ((wanted_of rfl rfl (bool_tr rfl hc49)).trans rfl) rfl ?_
        refine WL.pass ((wanted_of rfl rfl (bool_tr rfl hc49)).trans rfl) rfl ?_
        refine WL.pass ((wanted_of rfl rfl (bool_tr rfl hc49)).trans rfl) rfl ?_
        refine WL.pickT (v := .bool true) (bool_tr rfl hc49) rfl ?_
        refine WL.move (v := .bool true) rfl ?_
        refine WL.pass ((wanted_of rfl rfl rfl).trans rfl) rfl ?_
        refine WL.pass ((wanted_of rfl rfl rfl).trans rfl) rfl ?_
        refine WL.pass ((wanted_of rfl rfl rfl).trans rfl) rfl ?_
        refine WL.pass ((wanted_of rfl rfl rfl).trans rfl) rfl ?_
        refine WL.pass ((wanted_of rfl rfl rfl).trans rfl) rfl ?_
        refine WL.pickT (v := .bool true) rfl rfl ?_
        refine WL.nil ?_
        exact Jk28 true _ _ h21_1 h21_3 rfl ((hs.mask [true]).pick [1]) hf }
        {
        refine WL.fieldAddr (m := 2) h21_1 FA26_2 rfl ?_ (hg := (wanted_of rfl rfl (bool_tr rfl hc49)).trans rfl)
        refine WL.loadF (z := x1.Weight) F_api_Change_Weight hs 0 rfl 1 rfl rfl TI3 (.inr rfl) rfl rfl (fun v50 hs => ?_) (hg := (wanted_of rfl rfl (bool_tr rfl hc49)).trans rfl)
        obtain rfl := hs.int 0 rfl
        refine WL.move (v := .bool x18) h21_4 ?_ (hg := (wanted_of rfl rfl (bool_tr rfl hc49)).trans rfl)
        obtain ⟨x51, hxx51, hf⟩ := bindE hf
        refine WL.call (vs := [.int .i64 x1.Weight, .int .i64 1, .int .i64 9, .bool x18]) hs FN49 ⟨rfl, ⟨rfl, ⟨rfl, ⟨rfl, trivial⟩⟩⟩⟩ (fun ok hA => proposal_within.calls (x1 := x1.Weight) (x2 := 1) (x3 := 9) (x4 := x18) hxx51) ?_ (hg := (wanted_of rfl rfl (bool_tr rfl hc49)).trans rfl)
        rintro _ w hs
        refine WL.not rfl ?_ (hg := (wanted_of rfl rfl (bool_tr rfl hc49)).trans rfl)
        refine WL.pickF (v := .bool (!x51)) (bool_tr rfl hc49) rfl ?_
        refine WL.move (v := .bool (!x51)) rfl ?_
        rcases iteE hf with ⟨hc52, hf⟩ | ⟨hc52, hf⟩
        {
        refine WL.pass ((wanted_of rfl rfl (bool_tr rfl hc52)).trans rfl) rfl ?_
        refine WL.pass ((wanted_of rfl rfl (bool_tr rfl hc52)).trans rfl) rfl ?_
        refine WL.pass ((wanted_of rfl rfl (bool_tr rfl hc52)).trans rfl) rfl ?_
        refine WL.pass ((wanted_of rfl rfl (bool_tr rfl hc52)).trans rfl) rfl ?_
        refine WL.pass ((wanted_of rfl rfl (bool_tr rfl hc52)).trans rfl) rfl ?_
        refine WL.pickT (v := .bool true) (bool_tr rfl hc52) rfl ?_
        refine WL.nil ?_
        exact Jk28 true _ _ h21_1 h21_3 rfl ((hs.mask [true]).pick [2]) hf }
        {
        refine WL.fieldAddr (m := 3) h21_1 FA26_3 rfl ?_ (hg := (wanted_of rfl rfl (bool_tr rfl hc52)).trans rfl)
        refine WL.loadF (z := x1.Version) F_api_Change_Version hs 0 rfl 2 rfl rfl TI3 (.inr rfl) rfl rfl (fun v53 hs => ?_) (hg := (wanted_of rfl rfl (bool_tr rfl hc52)).trans rfl)
        obtain rfl := hs.int 0 rfl
        refine WL.move (v := .bool x22) h21_5 ?_ (hg := (wanted_of rfl rfl (bool_tr rfl hc52)).trans rfl)
        obtain ⟨x54, hxx54, hf⟩ := bindE hf
        refine WL.call (vs := [.int .i64 x1.Version, .int .i64 1, .int .i64 1000, .bool x22]) hs FN49 ⟨rfl, ⟨rfl, ⟨rfl, ⟨rfl, trivial⟩⟩⟩⟩ (fun ok hA => proposal_within.calls (x1 := x1.Version) (x2 := 1) (x3 := 1000) (x4 := x22) hxx54) ?_ (hg := (wanted_of rfl rfl (bool_tr rfl hc52)).trans rfl)
        rintro _ w hs
        refine WL.not rfl ?_ (hg := (wanted_of rfl rfl (bool_tr rfl hc52)).trans rfl)
        refine WL.pickF (v := .bool (!x54)) (bool_tr rfl hc52) rfl ?_
        refine WL.nil ?_
        exact Jk28 (!x54) _ _ h21_1 h21_3 rfl ((hs.mask [true]).pick [3]) hf } }
      refine W.region ?_
      refine WL.fieldAddr (m := 0) h17_1 FA26_0 rfl ?_
      refine WL.loadF (z := x1.Kind) F_api_Change_Kind hs 0 rfl 0 rfl rfl TI3 (.inr rfl) rfl rfl (fun v55 hs => ?_)
      obtain rfl := hs.int 0 rfl
      refine WL.bin (v := .bool (x1.Kind == 3)) rfl rfl (ib_eql _ _ _) ?_
      refine WL.move (v := .bool (x1.Kind == 3)) rfl ?_
      rcases iteE hf with ⟨hc56, hf⟩ | ⟨hc56, hf⟩
      {
      refine WL.pass ((wanted_of rfl rfl (bool_tr rfl hc56)).trans rfl) rfl ?_
      refine WL.pickT (v := .bool true) (bool_tr rfl hc56) rfl ?_
      refine WL.assign (v := .bool true) rfl ?_
      refine WL.nil ?_
      exact Jk23 true _ _ h17_1 h17_3 h17_4 rfl ((hs.mask [true]).pick [1]) hf }
      {
      refine WL.move (v := .bool (x1.Kind == 4)) h17_3 ?_ (hg := (wanted_of rfl rfl (bool_tr rfl hc56)).trans rfl)
      refine WL.pickF (v := .bool (x1.Kind == 4)) (bool_tr rfl hc56) rfl ?_
      refine WL.assign (v := .bool (x1.Kind == 4)) rfl ?_
      refine WL.nil ?_
      exact Jk23 (x1.Kind == 4) _ _ h17_1 h17_3 h17_4 rfl ((hs.mask [true]).pick [1]) hf }
    refine W.region ?_
    refine WL.fieldAddr (m := 0) h9_1 FA26_0 rfl ?_
    refine WL.loadF (z := x1.Kind) F_api_Change_Kind hs 0 rfl 1 rfl rfl TI3 (.inr rfl) rfl rfl (fun v57 hs => ?_)
    obtain rfl := hs.int 0 rfl
    refine WL.bin (v := .bool (x1.Kind == 1)) rfl rfl (ib_eql _ _ _) ?_
    refine WL.move (v := .bool (x1.Kind == 1)) rfl ?_
    rcases iteE hf with ⟨hc58, hf⟩ | ⟨hc58, hf⟩
    {
    refine WL.pass ((wanted_of rfl rfl (bool_tr rfl hc58)).trans rfl) rfl ?_
    refine WL.pass ((wanted_of rfl rfl (bool_tr rfl hc58)).trans rfl) rfl ?_
    refine WL.pass ((wanted_of rfl rfl (bool_tr rfl hc58)).trans rfl) rfl ?_
    refine WL.pickT (v := .bool true) (bool_tr rfl hc58) rfl ?_
    refine WL.assign (v := .bool true) rfl ?_
    refine WL.nil ?_
    exact Jk19 true _ _ h9_1 rfl rfl ((hs.mask [true]).pick [2]) hf }
    {
    refine WL.fieldAddr (m := 0) h9_1 FA26_0 rfl ?_ (hg := (wanted_of rfl rfl (bool_tr rfl hc58)).trans rfl)
    refine WL.loadF (z := x1.Kind) F_api_Change_Kind hs 0 rfl 2 rfl rfl TI3 (.inr rfl) rfl rfl (fun v59 hs => ?_) (hg := (wanted_of rfl rfl (bool_tr rfl hc58)).trans rfl)
    obtain rfl := hs.int 0 rfl
    refine WL.bin (v := .bool (x1.Kind == 3)) rfl rfl (ib_eql _ _ _) ?_ (hg := (wanted_of rfl rfl (bool_tr rfl hc58)).trans rfl)
    refine WL.pickF (v := .bool (x1.Kind == 3)) (bool_tr rfl hc58) rfl ?_
    refine WL.assign (v := .bool (x1.Kind == 3)) rfl ?_
    refine WL.nil ?_
    exact Jk19 (x1.Kind == 3) _ _ h9_1 rfl rfl ((hs.mask [true]).pick [3]) hf } }
  refine W.region ?_
  refine WL.fieldAddr (m := 0) rfl FA26_0 rfl ?_
  refine WL.loadF (z := x1.Kind) F_api_Change_Kind hs 0 rfl 0 rfl rfl TI3 (.inr rfl) rfl rfl (fun v60 hs => ?_)
  obtain rfl := hs.int 0 rfl
  refine WL.bin (v := .bool (decide (x1.Kind < 1))) rfl rfl (ib_lss _ _ _) ?_
  refine WL.move (v := .bool (decide (x1.Kind < 1))) rfl ?_
  rcases iteE hf with ⟨hc61, hf⟩ | ⟨hc61, hf⟩
  {
  refine WL.pass ((wanted_of rfl rfl (bool_tr rfl hc61)).trans rfl) rfl ?_
  refine WL.pass ((wanted_of rfl rfl (bool_tr rfl hc61)).trans rfl) rfl ?_
  refine WL.pass ((wanted_of rfl rfl (bool_tr rfl hc61)).trans rfl) rfl ?_
  refine WL.pickT (v := .bool true) (bool_tr rfl hc61) rfl ?_
  refine WL.nil ?_
  exact Jk11 true _ _ rfl rfl ((hs.mask [true]).pick [1]) hf }
  {
  refine WL.fieldAddr (m := 0) rfl FA26_0 rfl ?_ (hg := (wanted_of rfl rfl (bool_tr rfl hc61)).trans rfl)
  refine WL.loadF (z := x1.Kind) F_api_Change_Kind hs 0 rfl 1 rfl rfl TI3 (.inr rfl) rfl rfl (fun v62 hs => ?_) (hg := (wanted_of rfl rfl (bool_tr rfl hc61)).trans rfl)
  obtain rfl := hs.int 0 rfl
  refine WL.bin (v := .bool (decide (4 < x1.Kind))) rfl rfl (ib_gtr _ _ _) ?_ (hg := (wanted_of rfl rfl (bool_tr rfl hc61)).trans rfl)
  refine WL.pickF (v := .bool (decide (4 < x1.Kind))) (bool_tr rfl hc61) rfl ?_
  refine WL.nil ?_
  exact Jk11 (decide (4 < x1.Kind)) _ _ rfl rfl ((hs.mask [true]).pick [2]) hf }
/-! elasticstore/command.Parse: function 9 -/
theorem command_Parse.calls {ok : Nat → Prop} {w0 : World} {x1 : List UInt8}  {r : api_Change × Int} (hf : command_Parse x1 = some r)  :
    Calls Tryd.prog 9 #[bstr x1] w0 fun e w' => ∃ v, e = .returned v ∧ ∃ y : List Value, v = .tuple #[.agg y.toArray, .int .i64 r.2] ∧ St ok (bz w0) w' [vl t_api_Change r.1 (.agg y.toArray)] [] := by
  unfold command_Parse at hf
  refine calls_of_W (fn := Tryd.f9) (N := 23) Tryd.func9 rfl Tryd.ntmps9 rfl ?_
  have hs : St ok (bz w0) w0 [] [] := St.init All.nil
  refine W.seqK fun K2 hK2 => ?_
  refine W.region ?_
  refine WL.alloc hs ZV26 (fun g3 w hs => ?_)
  refine WL.assign (v := .int .i64 0) rfl ?_
  refine WL.nil ?_
  refine hK2 _ _ ?_
  refine W.seqK fun K4 hK4 => ?_
  refine W.region ?_
  refine WL.move (v := bstr x1) rfl ?_
  obtain ⟨⟨x5, x6⟩, hxx5, hf⟩ := bindE hf
  refine WL.call (vs := [bstr x1]) hs FN24 ⟨rfl, trivial⟩ (fun ok hA => command_syntax.calls (x1 := x1) hxx5) ?_
  rintro cs7 w hs
  have hl8 := hs.agglen (n := 7) 0 rfl rfl rfl
  refine WL.move (v := .tuple #[.agg cs7.toArray, .bool x6]) rfl ?_
  refine WL.extract (v := .agg cs7.toArray) rfl rfl ?_
  refine WL.extract (v := .bool x6) rfl rfl ?_
  refine WL.alloc hs ZV26 (fun g9 w hs => ?_)
  refine WL.storeAll (vs := cs7) hs 0 rfl TI26 rfl rfl rfl hl8 (hs.ones 0 rfl rfl) rfl (fun w hs => ?_)
  refine WL.assign (v := .bool x6) rfl ?_
  refine WL.nil ?_
  refine hK4 _ _ ?_
  refine W.seqK fun K10 hK10 => ?_
  refine W.seqK fun K11 hK11 => ?_
  refine W.region ?_
  refine WL.move (v := .bool x6) rfl ?_
  refine WL.not rfl ?_
  refine WL.nil ?_
  refine hK11 _ _ ?_
  rcases iteE hf with ⟨hc12, hf⟩ | ⟨hc12, hf⟩
  {
  refine W.cond_true (bool_tr rfl hc12) ?_
  refine W.seqK fun K13 hK13 => ?_
  refine W.region ?_
  refine WL.build (vs := []) (cs := [.int .i64 0, .int .i64 0, .int .i64 0, .int .i64 0, .int .i64 0, .int .i64 0, .int .i64 0]) trivial (bld PL26 rfl) ?_
  refine WL.storeAll (vs := [.int .i64 0, .int .i64 0, .int .i64 0, .int .i64 0, .int .i64 0, .int .i64 0, .int .i64 0]) hs 1 rfl TI26 rfl rfl rfl rfl (ones_of rfl) rfl (fun w hs => ?_)
  refine WL.assign (v := .int .i64 11) rfl ?_
  refine WL.nil ?_
  refine hK13 _ _ ?_
  refine W.ret ?_
  have hr := Option.some.inj hf; subst hr
  have hs := hs.add (it := vl t_api_Change (⟨0, 0, 0, 0, (⟨0, 0, 0⟩ : api_Rule)⟩ : api_Change) (.agg [.int .i64 0, .int .i64 0, .int .i64 0, .int .i64 0, .int .i64 0, .int .i64 0, .int .i64 0].toArray)) fun ok hA => V_agg (show t_api_Change.R ok _ _ _ from ⟨[.int .i64 0], [.int .i64 0, .int .i64 0, .int .i64 0, .int .i64 0, .int .i64 0, .int .i64 0], rfl, rfl, ⟨[.int .i64 0], [.int .i64 0, .int .i64 0, .int .i64 0, .int .i64 0, .int .i64 0], rfl, rfl, ⟨[.int .i64 0], [.int .i64 0, .int .i64 0, .int .i64 0, .int .i64 0], rfl, rfl, ⟨[.int .i64 0], [.int .i64 0, .int .i64 0, .int .i64 0], rfl, rfl, ⟨[.int .i64 0], [.int .i64 0, .int .i64 0], rfl, rfl, ⟨[.int .i64 0], [.int .i64 0], rfl, rfl, rfl⟩⟩⟩⟩⟩⟩) rfl
  exact ⟨_, resOk_two rfl (res_all hs 1 rfl TI26 rfl rfl) rfl, [.int .i64 0, .int .i64 0, .int .i64 0, .int .i64 0, .int .i64 0, .int .i64 0, .int .i64 0], rfl, (hs.mask []).pick [0]⟩ }
  {
  refine W.cond_false (bool_tr rfl hc12) ?_
  refine W.skip ?_
  refine hK10 _ _ ?_
  refine W.seqK fun K14 hK14 => ?_
  refine W.seqK fun K15 hK15 => ?_
  refine W.region ?_
  refine WL.loadAll hs 0 rfl TI26 rfl hl8 ?_
  obtain ⟨x16, hxx16, hf⟩ := bindE hf
  refine WL.call (vs := [.agg cs7.toArray]) hs FN26 ⟨rfl, trivial⟩ (fun ok hA => command_versioned.calls (x1 := x5) hxx16 (hA.get 0 rfl)) ?_
  rintro cs17 w hs
  have hl18 := hs.agglen (n := 7) 0 rfl rfl rfl
  obtain ⟨x19, hxx19, hf⟩ := bindE hf
  refine WL.call (vs := [.agg cs17.toArray]) hs FN25 ⟨rfl, trivial⟩ (fun ok hA => proposal_ValidateChange.calls (x1 := x16) hxx19 (hA.get 0 rfl)) ?_
  rintro _ w hs
  refine WL.assign (v := .int .i64 x19) rfl ?_
  refine WL.nil ?_
  refine hK15 _ _ ?_
  refine W.seqK fun K20 hK20 => ?_
  refine W.region ?_
  refine WL.move (v := .int .i64 x19) rfl ?_
  refine WL.bin (v := .bool (x19 != 0)) rfl rfl (ib_neq _ _ _) ?_
  refine WL.nil ?_
  refine hK20 _ _ ?_
  rcases iteE hf with ⟨hc21, hf⟩ | ⟨hc21, hf⟩
  {
  refine W.cond_true (bool_tr rfl hc21) ?_
  refine W.seqK fun K22 hK22 => ?_
  refine W.region ?_
  refine WL.build (vs := []) (cs := [.int .i64 0, .int .i64 0, .int .i64 0, .int .i64 0, .int .i64 0, .int .i64 0, .int .i64 0]) trivial (bld PL26 rfl) ?_
  refine WL.move (v := .int .i64 x19) rfl ?_
  refine WL.storeAll (vs := [.int .i64 0, .int .i64 0, .int .i64 0, .int .i64 0, .int .i64 0, .int .i64 0, .int .i64 0]) hs 1 rfl TI26 rfl rfl rfl rfl (ones_of rfl) rfl (fun w hs => ?_)
  refine WL.assign (v := .int .i64 x19) rfl ?_
  refine WL.nil ?_
  refine hK22 _ _ ?_
  refine W.ret ?_
  have hr := Option.some.inj hf; subst hr
  have hs := hs.add (it := vl t_api_Change (⟨0, 0, 0, 0, (⟨0, 0, 0⟩ : api_Rule)⟩ : api_Change) (.agg [.int .i64 0, .int .i64 0, .int .i64 0, .int .i64 0, .int .i64 0, .int .i64 0, .int .i64 0].toArray)) fun ok hA => V_agg (show t_api_Change.R ok _ _ _ from ⟨[.int .i64 0], [.int .i64 0, .int .i64 0, .int .i64 0, .int .i64 0, .int .i64 0, .int .i64 0], rfl, rfl, ⟨[.int .i64 0], [.int .i64 0, .int .i64 0, .int .i64 0, .int .i64 0, .int .i64 0], rfl, rfl, ⟨[.int .i64 0], [.int .i64 0, .int .i64 0, .int .i64 0, .int .i64 0], rfl, rfl, ⟨[.int .i64 0], [.int .i64 0, .int .i64 0, .int .i64 0], rfl, rfl, ⟨[.int .i64 0], [.int .i64 0, .int .i64 0], rfl, rfl, ⟨[.int .i64 0], [.int .i64 0], rfl, rfl, rfl⟩⟩⟩⟩⟩⟩) rfl
  exact ⟨_, resOk_two rfl (res_all hs 1 rfl TI26 rfl rfl) rfl, [.int .i64 0, .int .i64 0, .int .i64 0, .int .i64 0, .int .i64 0, .int .i64 0, .int .i64 0], rfl, (hs.mask []).pick [0]⟩ }
  {
  refine W.cond_false (bool_tr rfl hc21) ?_
  refine W.skip ?_
  refine hK14 _ _ ?_
  refine W.seqK fun K23 hK23 => ?_
  refine W.region ?_
  refine WL.loadAll hs 0 rfl TI26 rfl hl8 ?_
  refine WL.storeAll (vs := cs7) hs 1 rfl TI26 rfl rfl rfl hl8 (hs.ones 1 rfl rfl) rfl (fun w hs => ?_)
  refine WL.assign (v := .int .i64 0) rfl ?_
  refine WL.nil ?_
  refine hK23 _ _ ?_
  refine W.ret ?_
  have hr := Option.some.inj hf; subst hr
  exact ⟨_, resOk_two rfl (res_all hs 1 rfl TI26 rfl hl8) rfl, cs7, rfl, (hs.mask []).pick [1]⟩ } }
/-! elasticstore/elasticstoreref10.Initial: function 23 -/
theorem esref10_Initial.calls {ok : Nat → Prop} {w0 : World} {x1 : api_Genesis} {v2 : Value} {r : api_Summary} (hf : esref10_Initial x1 = some r) (i0 : (vl t_api_Genesis x1 v2).holds ok w0) :
    Calls Tryd.prog 23 #[v2] w0 fun e w' => ∃ v, e = .returned v ∧ ∃ y : (Option Addr × Nat × Nat) × (Option Addr × Nat × Nat) × (Option Addr × Nat × Nat), v = .agg ([.slice y.1.1 y.1.2.1 y.1.2.2, .slice y.2.1.1 y.2.1.2.1 y.2.1.2.2, .slice y.2.2.1 y.2.2.2.1 y.2.2.2.2, .int .i64 r.Rule.Kind, .int .i64 r.Rule.Columns, .int .i64 r.Rule.Faulty, .int .i64 r.Version, .int .i64 r.Admin, .int .i64 r.Number] : List Value).toArray ∧ St ok (bz w0) w' [] [own (tInt .i64) 3 (.slice y.1.1 y.1.2.1 y.1.2.2) r.Joined, own (tInt .i64) 3 (.slice y.2.1.1 y.2.1.2.1 y.2.1.2.2) r.Removed, own t_api_WeightEntry 59 (.slice y.2.2.1 y.2.2.2.1 y.2.2.2.2) r.Weights] := by
  unfold esref10_Initial at hf
  refine calls_of_W (fn := Tryd.f23) (N := 45) Tryd.func23 rfl Tryd.ntmps23 rfl ?_
  have hs : St ok (bz w0) w0 [vl t_api_Genesis x1 v2] [] := St.init (All.cons i0 All.nil)
  clear i0
  obtain ⟨cs3, hl4, rfl⟩ := hs.aggv (n := 4) 0 rfl rfl rfl
  refine W.seqK fun K5 hK5 => ?_
  refine W.region ?_
  refine WL.box (vs := cs3) hs rfl rfl (fun g6 w hs => ?_)
  refine WL.alloc hs ZV36 (fun g7 w hs => ?_)
  refine WL.nil ?_
  refine hK5 _ _ ?_
  refine W.seqK fun K8 hK8 => ?_
  refine W.region ?_
  refine WL.fieldAddr (m := 1) rfl FA47_1 rfl ?_
  refine WL.loadF (z := x1.Rule) F_api_Genesis_Rule hs 1 rfl 0 rfl rfl TI24 (.inl rfl) rfl rfl (fun v9 hs => ?_)
  obtain ⟨cs10, hl11, rfl⟩ := hs.aggv (n := 3) 0 rfl rfl rfl
  refine WL.build (vs := [(3, .agg cs10.toArray)]) (cs := ([.slice none 0 0, .slice none 0 0, .slice none 0 0] : List Value) ++ cs10 ++ ([.int .i64 0, .int .i64 0, .int .i64 0] : List Value)) ⟨⟨rfl, rfl⟩, trivial⟩ (bld PL36 (by simp [fillL, Value.cells, hl11])) ?_
  refine WL.alloc hs ZV36 (fun g12 w hs => ?_)
  refine WL.storeAll (vs := ([.slice none 0 0, .slice none 0 0, .slice none 0 0] : List Value) ++ cs10 ++ ([.int .i64 0, .int .i64 0, .int .i64 0] : List Value)) hs 0 rfl TI36 rfl rfl rfl (by simp [hl11]) (ones_app (ones_app (ones_of (l := [.slice none 0 0, .slice none 0 0, .slice none 0 0]) rfl) (hs.ones 0 rfl rfl)) (ones_of (l := [.int .i64 0, .int .i64 0, .int .i64 0]) rfl)) rfl (fun w hs => ?_)
  refine WL.nil ?_
  refine hK8 _ _ ?_
  refine W.seqK fun K13 hK13 => ?_
  obtain rfl := open_api_Rule hs 0 rfl
  have hs := hs.ownNil (tInt .i64) 3
  have hs := hs.ownNil t_api_WeightEntry 59
  have Jk23 : ∀ (x15 : List Int) (x19 : List api_WeightEntry) (a16 : Option Addr) (c17 : Nat) (n18 : Nat) (a20 : Option Addr) (c21 : Nat) (n22 : Nat) (ρ : Env) (w : World), ρ 2 = .pointer (some ⟨g7, 0, none⟩) → ρ 3 = .pointer (some ⟨g12, 0, none⟩) → St ok (bz w0) w [] [own t_api_WeightEntry 59 (.slice a20 n22 c21) x19, own (tInt .i64) 3 (.slice a16 n18 c17) x15, blk g12 36 [.slice a16 n18 c17, .slice none 0 0, .slice a20 n22 c21, .int .i64 x1.Rule.Kind, .int .i64 x1.Rule.Columns, .int .i64 x1.Rule.Faulty, .int .i64 0, .int .i64 0, .int .i64 0], blk g7 36 [.slice none 0 0, .slice none 0 0, .slice none 0 0, .int .i64 0, .int .i64 0, .int .i64 0, .int .i64 0, .int .i64 0, .int .i64 0]] → esref10_Initial.j1 x1 x15 x19 = some r → K13 ρ w := by
    intro x15 x19 a16 c17 n18 a20 c21 n22 ρ w h14_2 h14_3 hs hf
    refine hK13 _ _ ?_
    unfold esref10_Initial.j1 at hf
    refine W.seqK fun K24 hK24 => ?_
    refine W.region ?_
    refine WL.loadN (vs := [.slice a16 n18 c17, .slice none 0 0, .slice a20 n22 c21, .int .i64 x1.Rule.Kind, .int .i64 x1.Rule.Columns, .int .i64 x1.Rule.Faulty, .int .i64 0, .int .i64 0, .int .i64 0]) hs 2 rfl TI36 h14_3 rfl rfl ?_
    refine WL.storeAll (vs := [.slice a16 n18 c17, .slice none 0 0, .slice a20 n22 c21, .int .i64 x1.Rule.Kind, .int .i64 x1.Rule.Columns, .int .i64 x1.Rule.Faulty, .int .i64 0, .int .i64 0, .int .i64 0]) hs 3 rfl TI36 h14_2 rfl rfl rfl (ones_of rfl) rfl (fun w hs => ?_)
    refine WL.nil ?_
    refine hK24 _ _ ?_
    refine W.ret ?_
    have hr := Option.some.inj hf; subst hr
    have hs := hs.ownNil (tInt .i64) 3
    have hs := hs.front 1 rfl
    have hs := hs.front 1 rfl
    have hs := hs.front 2 rfl
    exact ⟨_, resOk_one rfl (res_all hs 4 rfl TI36 h14_2 rfl), ((a16, n18, c17), (none, 0, 0), (a20, n22, c21)), rfl, (hs.mask [true, true, true]).pick []⟩
  refine W.seqK fun K25 hK25 => ?_
  refine W.region ?_
  refine WL.assign (v := .int .i64 0) rfl ?_
  refine WL.nil ?_
  refine hK25 _ _ ?_
  refine W.block ?_
  obtain ⟨bs36, hbs36, hfs36⟩ := bindE hf
  refine W.loop hbs36 (fun s ρ w => match s with | (x27, x28, x32) => ∃ (a29 : Option Addr), ∃ (c30 : Nat), ∃ (n31 : Nat), ∃ (a33 : Option Addr), ∃ (c34 : Nat), ∃ (n35 : Nat), ρ 1 = .pointer (some ⟨g6, 0, none⟩) ∧ ρ 2 = .pointer (some ⟨g7, 0, none⟩) ∧ ρ 3 = .pointer (some ⟨g12, 0, none⟩) ∧ ρ 4 = .int .i64 x27 ∧ St ok (bz w0) w [vl t_api_Genesis x1 (.agg cs3.toArray)] [own t_api_WeightEntry 59 (.slice a33 n35 c34) x32, own (tInt .i64) 3 (.slice a29 n31 c30) x28, blk g12 36 [.slice a29 n31 c30, .slice none 0 0, .slice a33 n35 c34, .int .i64 x1.Rule.Kind, .int .i64 x1.Rule.Columns, .int .i64 x1.Rule.Faulty, .int .i64 0, .int .i64 0, .int .i64 0], blk g7 36 [.slice none 0 0, .slice none 0 0, .slice none 0 0, .int .i64 0, .int .i64 0, .int .i64 0, .int .i64 0, .int .i64 0, .int .i64 0], blk g6 47 cs3]) ⟨none, 0, 0, none, 0, 0, rfl, rfl, rfl, rfl, (hs.mask [true, true, true, true, true]).pick [1]⟩ ?_
  intro s ρ w os36 hI hf hbbs36
  obtain ⟨x27, x28, x32⟩ := s
  obtain ⟨a29, c30, n31, a33, c34, n35, h26_1, h26_2, h26_3, h26_4, hs⟩ := hI
  unfold esref10_Initial.l1 at hf
  refine W.seqK fun K37 hK37 => ?_
  refine W.seqK fun K38 hK38 => ?_
  refine W.region ?_
  refine WL.move (v := .int .i64 x27) h26_4 ?_
  refine WL.fieldAddr (m := 0) h26_1 FA47_0 rfl ?_
  refine WL.loadF (z := x1.Members) F_api_Genesis_Members hs 4 rfl 0 rfl rfl TI45 (.inr rfl) rfl rfl (fun v39 hs => ?_)
  obtain ⟨a40, c41, rfl⟩ := hs.slice 0 rfl
  refine WL.len (v := .slice a40 (x1.Members).length c41) rfl (len_slice UN45) ?_
  refine WL.bin (v := .bool (decide (x27 < ((x1.Members).length : Int)))) rfl rfl (ib_lss _ _ _) ?_
  refine WL.nil ?_
  refine hK38 _ _ ?_
  rcases iteE hf with ⟨hc42, hf⟩ | ⟨hc42, hf⟩
  {
  refine W.cond_true (bool_tr rfl hc42) ?_
  refine W.skip ?_
  refine hK37 _ _ ?_
  refine W.seqK fun K43 hK43 => ?_
  refine W.block ?_
  refine W.seqK fun K44 hK44 => ?_
  obtain ⟨x48, hxx48, hf⟩ := bindE hf
  refine W.any (by kernel_rfl) 9 3 [true, true, true, true, true, true, true, true, true, false, false, false] rfl rfl (poAt [pv (.pointer (some ⟨g12, 0, none⟩)), pv (.slice a29 n31 c30), pv (.pointer (some ⟨g6, 0, none⟩)), pq (fun y : (Option Addr × Nat) => .slice y.1 (x1.Members).length y.2) (fun v => [vl (tSlice t_api_Member) x1.Members v]) (fun v => []), pv (.int .i64 x27), pq (fun y : Addr => .pointer (some y)) (fun v => [pl t_api_Member x48 (adOf v)]) (fun v => []), pq (fun y : Addr => .pointer (some y)) (fun v => [pl (tInt .i64) x48.Server (adOf v)]) (fun v => []), pv (.int .i64 x48.Server), pq (fun y : (Option Addr × Nat) => .slice y.1 ([x48.Server]).length y.2) (fun v => [vl (tSlice (tInt .i64)) [x48.Server] v]) (fun v => [])]) (Λ := [own t_api_WeightEntry 59 (.slice a33 n35 c34) x32, own (tInt .i64) 3 (.slice a29 n31 c30) x28, blk g12 36 [.slice a29 n31 c30, .slice none 0 0, .slice a33 n35 c34, .int .i64 x1.Rule.Kind, .int .i64 x1.Rule.Columns, .int .i64 x1.Rule.Faulty, .int .i64 0, .int .i64 0, .int .i64 0], blk g7 36 [.slice none 0 0, .slice none 0 0, .slice none 0 0, .int .i64 0, .int .i64 0, .int .i64 0, .int .i64 0, .int .i64 0, .int .i64 0], blk g6 47 cs3]) hs (by kernel_rfl) (by kernel_rfl) (by kernel_rfl) ⟨⟨⟨⟨⟨⟨⟨⟨⟨trivial, ?_⟩, ?_⟩, ?_⟩, ?_⟩, ?_⟩, ?_⟩, ?_⟩, ?_⟩, ?_⟩ ?_
  {
  intro ρ w Γx Λx hs hu hp
  refine WL.fieldAddr (m := 0) ((hu 3 rfl).trans h26_3) FA36_0 rfl ?_
  exact WL.nil ⟨rfl, _, rfl, rfl, hs.cutG 0 0⟩ }
  {
  intro ρ w Γx Λx hs hu hp
  have e54 : ρ 15 = .pointer (some ⟨g12, 0, none⟩) := (hp 0 rfl).1
  refine WL.load1 (v := .slice a29 n31 c30) hs (Λx.length + 2) (getApp rfl) TI33 e54 rfl ?_
  exact WL.nil ⟨rfl, _, rfl, rfl, hs.cutG 0 0⟩ }
  {
  intro ρ w Γx Λx hs hu hp
  refine WL.fieldAddr (m := 0) ((hu 1 rfl).trans h26_1) FA47_0 rfl ?_
  exact WL.nil ⟨rfl, _, rfl, rfl, hs.cutG 0 0⟩ }
  {
  intro ρ w Γx Λx hs hu hp
  have e55 : ρ 17 = .pointer (some ⟨g6, 0, none⟩) := (hp 2 rfl).1
  refine WL.loadF (z := x1.Members) F_api_Genesis_Members hs (Λx.length + 4) (getApp rfl) (Γx.length + 1) (getApp rfl) rfl TI45 (.inr rfl) e55 rfl (fun v45 hs => ?_)
  obtain ⟨a46, c47, rfl⟩ := hs.slice 0 rfl
  have hs := hs.add (it := vl (tSlice t_api_Member) x1.Members (.slice a46 (x1.Members).length c47)) fun ok hA => hA.get 0 rfl
  exact WL.nil ⟨rfl, _, rfl, ⟨(a46, c47), rfl⟩, hs.cutG 1 1⟩ }
  {
  intro ρ w Γx Λx hs hu hp
  refine WL.move (v := .int .i64 x27) ((hu 4 rfl).trans h26_4) ?_
  exact WL.nil ⟨rfl, _, rfl, rfl, hs.cutG 0 0⟩ }
  {
  intro ρ w Γx Λx hs hu hp
  obtain ⟨⟨⟨a56, c57⟩, e58r⟩, hm59⟩ := hp 3 rfl
  have e58 : ρ 18 = .slice a56 (x1.Members).length c57 := e58r
  rw [e58r] at hm59
  have hs := hs.memo1 (it := vl (tSlice t_api_Member) x1.Members (.slice a56 (x1.Members).length c57)) (List.mem_append.2 (.inl (hm59 _ (List.mem_of_getElem? (i := 0) rfl))))
  have e60 : ρ 19 = .int .i64 x27 := (hp 4 rfl).1
  refine WL.indexAddr hs 0 rfl UN45 TI64 e58 e60 hxx48 (fun ad49 hs => ?_)
  have hs := hs.add (it := pl t_api_Member x48 ad49) fun ok hA => hA.get 0 rfl
  exact WL.nil ⟨rfl, _, rfl, ⟨ad49, rfl⟩, hs.cutG 1 2⟩ }
  {
  intro ρ w Γx Λx hs hu hp
  obtain ⟨⟨ad61, e62r⟩, hm63⟩ := hp 5 rfl
  have e62 : ρ 20 = .pointer (some ad61) := e62r
  rw [e62r] at hm63
  have hs := hs.memo1 (it := pl t_api_Member x48 ad61) (List.mem_append.2 (.inl (hm63 _ (List.mem_of_getElem? (i := 0) rfl))))
  refine WL.fieldAddrP (z := x48.Server) F_api_Member_Server hs 0 rfl e62 FA64_0 rfl (fun ad50 hs => ?_)
  have hs := hs.add (it := pl (tInt .i64) x48.Server ad50) fun ok hA => hA.get 0 rfl
  exact WL.nil ⟨rfl, _, rfl, ⟨ad50, rfl⟩, hs.cutG 1 2⟩ }
  {
  intro ρ w Γx Λx hs hu hp
  obtain ⟨⟨ad64, e65r⟩, hm66⟩ := hp 6 rfl
  have e65 : ρ 21 = .pointer (some ad64) := e65r
  rw [e65r] at hm66
  have hs := hs.memo1 (it := pl (tInt .i64) x48.Server ad64) (List.mem_append.2 (.inl (hm66 _ (List.mem_of_getElem? (i := 0) rfl))))
  refine WL.loadP hs 0 rfl TI3 (.inr rfl) e65 (fun v51 hs => ?_)
  obtain rfl := hs.int 0 rfl
  exact WL.nil ⟨rfl, _, rfl, rfl, hs.cutG 0 2⟩ }
  {
  intro ρ w Γx Λx hs hu hp
  have e67 : ρ 22 = .int .i64 x48.Server := (hp 7 rfl).1
  refine WL.buildSliceB (ys := [x48.Server]) (n := 1) (vs := [(0, .int .i64 x48.Server)]) (cs := [.int .i64 x48.Server]) hs ⟨⟨rfl, e67⟩, trivial⟩ (bls PS33 (by decide) rfl) (fun ok hA => (Cells.one (T := tInt .i64) rfl)) rfl (by decide) (fun a53 w hBl hs => ?_)
  have hs := hs.add (it := vl (tSlice (tInt .i64)) [x48.Server] (.slice a53 ([x48.Server]).length 1)) fun ok hA => hA.get 0 rfl
  exact WL.nil ⟨rfl, _, rfl, ⟨(a53, 1), rfl⟩, hs.cutG 1 1⟩ }
  {
  intro ρ w hs hu68 hp
  obtain ⟨⟨⟨⟨⟨⟨⟨⟨⟨_, hp0_⟩, hp1_⟩, hp2_⟩, hp3_⟩, hp4_⟩, hp5_⟩, hp6_⟩, hp7_⟩, hp8_⟩ := hp
  have hs : St ok (bz w0) w [vl (tSlice (tInt .i64)) [x48.Server] (ρ 23), pl (tInt .i64) x48.Server (adOf (ρ 21)), pl t_api_Member x48 (adOf (ρ 20)), vl (tSlice t_api_Member) x1.Members (ρ 18), vl (tSlice t_api_Member) x1.Members (.slice a40 (x1.Members).length c41), vl t_api_Genesis x1 (.agg cs3.toArray)] [own t_api_WeightEntry 59 (.slice a33 n35 c34) x32, own (tInt .i64) 3 (.slice a29 n31 c30) x28, blk g12 36 [.slice a29 n31 c30, .slice none 0 0, .slice a33 n35 c34, .int .i64 x1.Rule.Kind, .int .i64 x1.Rule.Columns, .int .i64 x1.Rule.Faulty, .int .i64 0, .int .i64 0, .int .i64 0], blk g7 36 [.slice none 0 0, .slice none 0 0, .slice none 0 0, .int .i64 0, .int .i64 0, .int .i64 0, .int .i64 0, .int .i64 0, .int .i64 0], blk g6 47 cs3] := hs
  obtain ⟨⟨a69, c70⟩, e71⟩ := hp8_
  have e71 : ρ 23 = .slice a69 ([x48.Server]).length c70 := e71
  try rw [e71] at hs
  have e72 : ρ 22 = .int .i64 x48.Server := hp7_
  obtain ⟨ad73, e74⟩ := hp6_
  have e74 : ρ 21 = .pointer (some ad73) := e74
  try rw [e74] at hs
  obtain ⟨ad75, e76⟩ := hp5_
  have e76 : ρ 20 = .pointer (some ad75) := e76
  try rw [e76] at hs
  have e77 : ρ 19 = .int .i64 x27 := hp4_
  obtain ⟨⟨a78, c79⟩, e80⟩ := hp3_
  have e80 : ρ 18 = .slice a78 (x1.Members).length c79 := e80
  try rw [e80] at hs
  have e81 : ρ 17 = .pointer (some ⟨g6, 0, none⟩) := hp2_
  have e82 : ρ 16 = .slice a29 n31 c30 := hp1_
  have e83 : ρ 15 = .pointer (some ⟨g12, 0, none⟩) := hp0_
  refine WA.step [9] (by kernel_rfl) (by simp) ⟨?_, trivial⟩
  obtain ⟨x84, hxx84, hf⟩ := bindE hf
  obtain ⟨hbx84, hex84⟩ := appE hxx84
  refine WL.appendS (zs := x84) hs 1 rfl 0 rfl UN33 UN33 EI3 e82 e71 hbx84 (by omega) hex84 (fun v85 w hs => ?_)
  obtain ⟨a86, n88, c87, rfl⟩ := hs.ownv3 1 rfl
  refine WL.nil ⟨rfl, _, rfl, ?_⟩
  refine WA.step [10] (by kernel_rfl) (by simp) ⟨?_, trivial⟩
  refine WL.fieldAddr (m := 0) ((hu68 3 rfl).trans h26_3) FA36_0 rfl ?_
  refine WL.nil ⟨rfl, _, rfl, ?_⟩
  refine WA.step [11] (by kernel_rfl) (by simp) ⟨?_, trivial⟩
  refine WL.store (vs := [.slice a86 n88 c87]) (cs' := [.slice a86 n88 c87, .slice none 0 0, .slice a33 n35 c34, .int .i64 x1.Rule.Kind, .int .i64 x1.Rule.Columns, .int .i64 x1.Rule.Faulty, .int .i64 0, .int .i64 0, .int .i64 0]) hs 2 rfl TI33 rfl rfl rfl rfl (ones_of rfl) (Nat.le_of_ble_eq_true rfl) rfl (fun w hs => ?_)
  refine WL.nil ⟨rfl, _, rfl, ?_⟩
  refine WA.done (by kernel_rfl) ?_
  refine hK44 _ _ ?_
  obtain ⟨x92, hxx92, hf⟩ := bindE hf
  obtain ⟨x99, hxx99, hf⟩ := bindE hf
  refine W.any (by kernel_rfl) 16 3 [true, true, true, true, true, true, true, true, true, true, true, true, true, true, true, true, false, false, false] rfl rfl (poAt [pv (.pointer (some ⟨g12, 2, none⟩)), pv (.slice a33 n35 c34), pv (.pointer (some ⟨g6, 0, none⟩)), pq (fun y : (Option Addr × Nat) => .slice y.1 (x1.Members).length y.2) (fun v => [vl (tSlice t_api_Member) x1.Members v]) (fun v => []), pv (.int .i64 x27), pq (fun y : Addr => .pointer (some y)) (fun v => [pl t_api_Member x92 (adOf v)]) (fun v => []), pq (fun y : Addr => .pointer (some y)) (fun v => [pl (tInt .i64) x92.Server (adOf v)]) (fun v => []), pv (.int .i64 x92.Server), pv (.pointer (some ⟨g6, 0, none⟩)), pq (fun y : (Option Addr × Nat) => .slice y.1 (x1.Members).length y.2) (fun v => [vl (tSlice t_api_Member) x1.Members v]) (fun v => []), pv (.int .i64 x27), pq (fun y : Addr => .pointer (some y)) (fun v => [pl t_api_Member x99 (adOf v)]) (fun v => []), pq (fun y : Addr => .pointer (some y)) (fun v => [pl (tInt .i64) x99.Weight (adOf v)]) (fun v => []), pv (.int .i64 x99.Weight), pv (.agg ([.int .i64 x92.Server, .int .i64 x99.Weight, .int .i64 0, .int .i64 0, .int .i64 0] : List Value).toArray), pq (fun y : (Option Addr × Nat) => .slice y.1 ([(⟨x92.Server, x99.Weight, 0, 0, 0⟩ : api_WeightEntry)]).length y.2) (fun v => [vl (tSlice t_api_WeightEntry) [(⟨x92.Server, x99.Weight, 0, 0, 0⟩ : api_WeightEntry)] v]) (fun v => [])]) (Λ := [own t_api_WeightEntry 59 (.slice a33 n35 c34) x32, own (tInt .i64) 3 (.slice a86 n88 c87) x84, blk g12 36 [.slice a86 n88 c87, .slice none 0 0, .slice a33 n35 c34, .int .i64 x1.Rule.Kind, .int .i64 x1.Rule.Columns, .int .i64 x1.Rule.Faulty, .int .i64 0, .int .i64 0, .int .i64 0], blk g7 36 [.slice none 0 0, .slice none 0 0, .slice none 0 0, .int .i64 0, .int .i64 0, .int .i64 0, .int .i64 0, .int .i64 0, .int .i64 0], blk g6 47 cs3]) hs (by kernel_rfl) (by kernel_rfl) (by kernel_rfl) ⟨⟨⟨⟨⟨⟨⟨⟨⟨⟨⟨⟨⟨⟨⟨⟨trivial, ?_⟩, ?_⟩, ?_⟩, ?_⟩, ?_⟩, ?_⟩, ?_⟩, ?_⟩, ?_⟩, ?_⟩, ?_⟩, ?_⟩, ?_⟩, ?_⟩, ?_⟩, ?_⟩ ?_
  {
  intro ρ w Γx Λx hs hu hp
  refine WL.fieldAddr (m := 2) ((hu 3 rfl).trans ((hu68 3 rfl).trans h26_3)) FA36_2 rfl ?_
  exact WL.nil ⟨rfl, _, rfl, rfl, hs.cutG 0 0⟩ }
  {
  intro ρ w Γx Λx hs hu hp
  have e105 : ρ 26 = .pointer (some ⟨g12, 2, none⟩) := (hp 0 rfl).1
  refine WL.load1 (v := .slice a33 n35 c34) hs (Λx.length + 2) (getApp rfl) TI34 e105 rfl ?_
  exact WL.nil ⟨rfl, _, rfl, rfl, hs.cutG 0 0⟩ }
  {
  intro ρ w Γx Λx hs hu hp
  refine WL.fieldAddr (m := 0) ((hu 1 rfl).trans ((hu68 1 rfl).trans h26_1)) FA47_0 rfl ?_
  exact WL.nil ⟨rfl, _, rfl, rfl, hs.cutG 0 0⟩ }
  {
  intro ρ w Γx Λx hs hu hp
  have e106 : ρ 28 = .pointer (some ⟨g6, 0, none⟩) := (hp 2 rfl).1
  refine WL.loadF (z := x1.Members) F_api_Genesis_Members hs (Λx.length + 4) (getApp rfl) (Γx.length + 5) (getApp rfl) rfl TI45 (.inr rfl) e106 rfl (fun v89 hs => ?_)
  obtain ⟨a90, c91, rfl⟩ := hs.slice 0 rfl
  have hs := hs.add (it := vl (tSlice t_api_Member) x1.Members (.slice a90 (x1.Members).length c91)) fun ok hA => hA.get 0 rfl
  exact WL.nil ⟨rfl, _, rfl, ⟨(a90, c91), rfl⟩, hs.cutG 1 1⟩ }
  {
  intro ρ w Γx Λx hs hu hp
  refine WL.move (v := .int .i64 x27) ((hu 4 rfl).trans ((hu68 4 rfl).trans h26_4)) ?_
  exact WL.nil ⟨rfl, _, rfl, rfl, hs.cutG 0 0⟩ }
  {
  intro ρ w Γx Λx hs hu hp
  obtain ⟨⟨⟨a107, c108⟩, e109r⟩, hm110⟩ := hp 3 rfl
  have e109 : ρ 29 = .slice a107 (x1.Members).length c108 := e109r
  rw [e109r] at hm110
  have hs := hs.memo1 (it := vl (tSlice t_api_Member) x1.Members (.slice a107 (x1.Members).length c108)) (List.mem_append.2 (.inl (hm110 _ (List.mem_of_getElem? (i := 0) rfl))))
  have e111 : ρ 30 = .int .i64 x27 := (hp 4 rfl).1
  refine WL.indexAddr hs 0 rfl UN45 TI64 e109 e111 hxx92 (fun ad93 hs => ?_)
  have hs := hs.add (it := pl t_api_Member x92 ad93) fun ok hA => hA.get 0 rfl
  exact WL.nil ⟨rfl, _, rfl, ⟨ad93, rfl⟩, hs.cutG 1 2⟩ }
  {
  intro ρ w Γx Λx hs hu hp
  obtain ⟨⟨ad112, e113r⟩, hm114⟩ := hp 5 rfl
  have e113 : ρ 31 = .pointer (some ad112) := e113r
  rw [e113r] at hm114
  have hs := hs.memo1 (it := pl t_api_Member x92 ad112) (List.mem_append.2 (.inl (hm114 _ (List.mem_of_getElem? (i := 0) rfl))))
  refine WL.fieldAddrP (z := x92.Server) F_api_Member_Server hs 0 rfl e113 FA64_0 rfl (fun ad94 hs => ?_)
  have hs := hs.add (it := pl (tInt .i64) x92.Server ad94) fun ok hA => hA.get 0 rfl
  exact WL.nil ⟨rfl, _, rfl, ⟨ad94, rfl⟩, hs.cutG 1 2⟩ }
  {
  intro ρ w Γx Λx hs hu hp
  obtain ⟨⟨ad115, e116r⟩, hm117⟩ := hp 6 rfl
  have e116 : ρ 32 = .pointer (some ad115) := e116r
  rw [e116r] at hm117
  have hs := hs.memo1 (it := pl (tInt .i64) x92.Server ad115) (List.mem_append.2 (.inl (hm117 _ (List.mem_of_getElem? (i := 0) rfl))))
  refine WL.loadP hs 0 rfl TI3 (.inr rfl) e116 (fun v95 hs => ?_)
  obtain rfl := hs.int 0 rfl
  exact WL.nil ⟨rfl, _, rfl, rfl, hs.cutG 0 2⟩ }
  {
  intro ρ w Γx Λx hs hu hp
  refine WL.fieldAddr (m := 0) ((hu 1 rfl).trans ((hu68 1 rfl).trans h26_1)) FA47_0 rfl ?_
  exact WL.nil ⟨rfl, _, rfl, rfl, hs.cutG 0 0⟩ }
  {
  intro ρ w Γx Λx hs hu hp
  have e118 : ρ 34 = .pointer (some ⟨g6, 0, none⟩) := (hp 8 rfl).1
  refine WL.loadF (z := x1.Members) F_api_Genesis_Members hs (Λx.length + 4) (getApp rfl) (Γx.length + 5) (getApp rfl) rfl TI45 (.inr rfl) e118 rfl (fun v96 hs => ?_)
  obtain ⟨a97, c98, rfl⟩ := hs.slice 0 rfl
  have hs := hs.add (it := vl (tSlice t_api_Member) x1.Members (.slice a97 (x1.Members).length c98)) fun ok hA => hA.get 0 rfl
  exact WL.nil ⟨rfl, _, rfl, ⟨(a97, c98), rfl⟩, hs.cutG 1 1⟩ }
  {
  intro ρ w Γx Λx hs hu hp
  refine WL.move (v := .int .i64 x27) ((hu 4 rfl).trans ((hu68 4 rfl).trans h26_4)) ?_
  exact WL.nil ⟨rfl, _, rfl, rfl, hs.cutG 0 0⟩ }
  {
  intro ρ w Γx Λx hs hu hp
  obtain ⟨⟨⟨a119, c120⟩, e121r⟩, hm122⟩ := hp 9 rfl
  have e121 : ρ 35 = .slice a119 (x1.Members).length c120 := e121r
  rw [e121r] at hm122
  have hs := hs.memo1 (it := vl (tSlice t_api_Member) x1.Members (.slice a119 (x1.Members).length c120)) (List.mem_append.2 (.inl (hm122 _ (List.mem_of_getElem? (i := 0) rfl))))
  have e123 : ρ 36 = .int .i64 x27 := (hp 10 rfl).1
  refine WL.indexAddr hs 0 rfl UN45 TI64 e121 e123 hxx99 (fun ad100 hs => ?_)
  have hs := hs.add (it := pl t_api_Member x99 ad100) fun ok hA => hA.get 0 rfl
  exact WL.nil ⟨rfl, _, rfl, ⟨ad100, rfl⟩, hs.cutG 1 2⟩ }
  {
  intro ρ w Γx Λx hs hu hp
  obtain ⟨⟨ad124, e125r⟩, hm126⟩ := hp 11 rfl
  have e125 : ρ 37 = .pointer (some ad124) := e125r
  rw [e125r] at hm126
  have hs := hs.memo1 (it := pl t_api_Member x99 ad124) (List.mem_append.2 (.inl (hm126 _ (List.mem_of_getElem? (i := 0) rfl))))
  refine WL.fieldAddrP (z := x99.Weight) F_api_Member_Weight hs 0 rfl e125 FA64_1 rfl (fun ad101 hs => ?_)
  have hs := hs.add (it := pl (tInt .i64) x99.Weight ad101) fun ok hA => hA.get 0 rfl
  exact WL.nil ⟨rfl, _, rfl, ⟨ad101, rfl⟩, hs.cutG 1 2⟩ }
  {
  intro ρ w Γx Λx hs hu hp
  obtain ⟨⟨ad127, e128r⟩, hm129⟩ := hp 12 rfl
  have e128 : ρ 38 = .pointer (some ad127) := e128r
  rw [e128r] at hm129
  have hs := hs.memo1 (it := pl (tInt .i64) x99.Weight ad127) (List.mem_append.2 (.inl (hm129 _ (List.mem_of_getElem? (i := 0) rfl))))
  refine WL.loadP hs 0 rfl TI3 (.inr rfl) e128 (fun v102 hs => ?_)
  obtain rfl := hs.int 0 rfl
  exact WL.nil ⟨rfl, _, rfl, rfl, hs.cutG 0 2⟩ }
  {
  intro ρ w Γx Λx hs hu hp
  have e130 : ρ 33 = .int .i64 x92.Server := (hp 7 rfl).1
  have e131 : ρ 39 = .int .i64 x99.Weight := (hp 13 rfl).1
  refine WL.build (vs := [(0, .int .i64 x92.Server), (1, .int .i64 x99.Weight)]) (cs := [.int .i64 x92.Server, .int .i64 x99.Weight, .int .i64 0, .int .i64 0, .int .i64 0]) ⟨⟨rfl, e130⟩, ⟨⟨rfl, e131⟩, trivial⟩⟩ (bld PL59 rfl) ?_
  exact WL.nil ⟨rfl, _, rfl, rfl, hs.cutG 0 0⟩ }
  {
  intro ρ w Γx Λx hs hu hp
  have e132 : ρ 40 = .agg ([.int .i64 x92.Server, .int .i64 x99.Weight, .int .i64 0, .int .i64 0, .int .i64 0] : List Value).toArray := (hp 14 rfl).1
  refine WL.buildSliceB (ys := [(⟨x92.Server, x99.Weight, 0, 0, 0⟩ : api_WeightEntry)]) (n := 1) (vs := [(0, .agg ([.int .i64 x92.Server, .int .i64 x99.Weight, .int .i64 0, .int .i64 0, .int .i64 0] : List Value).toArray)]) (cs := [.int .i64 x92.Server, .int .i64 x99.Weight, .int .i64 0, .int .i64 0, .int .i64 0]) hs ⟨⟨rfl, e132⟩, trivial⟩ (bls PS34 (by decide) rfl) (fun ok hA => (Cells.one (T := t_api_WeightEntry) (show t_api_WeightEntry.R ok _ (⟨x92.Server, x99.Weight, 0, 0, 0⟩ : api_WeightEntry) _ from ⟨[.int .i64 x92.Server], [.int .i64 x99.Weight, .int .i64 0, .int .i64 0, .int .i64 0], rfl, rfl, ⟨[.int .i64 x99.Weight], [.int .i64 0, .int .i64 0, .int .i64 0], rfl, rfl, ⟨[.int .i64 0], [.int .i64 0, .int .i64 0], rfl, rfl, ⟨[.int .i64 0], [.int .i64 0], rfl, rfl, rfl⟩⟩⟩⟩))) rfl (by decide) (fun a104 w hBl hs => ?_)
  have hs := hs.add (it := vl (tSlice t_api_WeightEntry) [(⟨x92.Server, x99.Weight, 0, 0, 0⟩ : api_WeightEntry)] (.slice a104 ([(⟨x92.Server, x99.Weight, 0, 0, 0⟩ : api_WeightEntry)]).length 1)) fun ok hA => hA.get 0 rfl
  exact WL.nil ⟨rfl, _, rfl, ⟨(a104, 1), rfl⟩, hs.cutG 1 1⟩ }
  {
  intro ρ w hs hu133 hp
  obtain ⟨⟨⟨⟨⟨⟨⟨⟨⟨⟨⟨⟨⟨⟨⟨⟨_, hp0_⟩, hp1_⟩, hp2_⟩, hp3_⟩, hp4_⟩, hp5_⟩, hp6_⟩, hp7_⟩, hp8_⟩, hp9_⟩, hp10_⟩, hp11_⟩, hp12_⟩, hp13_⟩, hp14_⟩, hp15_⟩ := hp
  have hs : St ok (bz w0) w [vl (tSlice t_api_WeightEntry) [(⟨x92.Server, x99.Weight, 0, 0, 0⟩ : api_WeightEntry)] (ρ 41), pl (tInt .i64) x99.Weight (adOf (ρ 38)), pl t_api_Member x99 (adOf (ρ 37)), vl (tSlice t_api_Member) x1.Members (ρ 35), pl (tInt .i64) x92.Server (adOf (ρ 32)), pl t_api_Member x92 (adOf (ρ 31)), vl (tSlice t_api_Member) x1.Members (ρ 29), vl (tSlice (tInt .i64)) [x48.Server] (.slice a69 ([x48.Server]).length c70), pl (tInt .i64) x48.Server ad73, pl t_api_Member x48 ad75, vl (tSlice t_api_Member) x1.Members (.slice a78 (x1.Members).length c79), vl (tSlice t_api_Member) x1.Members (.slice a40 (x1.Members).length c41), vl t_api_Genesis x1 (.agg cs3.toArray)] [own t_api_WeightEntry 59 (.slice a33 n35 c34) x32, own (tInt .i64) 3 (.slice a86 n88 c87) x84, blk g12 36 [.slice a86 n88 c87, .slice none 0 0, .slice a33 n35 c34, .int .i64 x1.Rule.Kind, .int .i64 x1.Rule.Columns, .int .i64 x1.Rule.Faulty, .int .i64 0, .int .i64 0, .int .i64 0], blk g7 36 [.slice none 0 0, .slice none 0 0, .slice none 0 0, .int .i64 0, .int .i64 0, .int .i64 0, .int .i64 0, .int .i64 0, .int .i64 0], blk g6 47 cs3] := hs
  obtain ⟨⟨a134, c135⟩, e136⟩ := hp15_
  have e136 : ρ 41 = .slice a134 ([(⟨x92.Server, x99.Weight, 0, 0, 0⟩ : api_WeightEntry)]).length c135 := e136
  try rw [e136] at hs
  have e137 : ρ 40 = .agg ([.int .i64 x92.Server, .int .i64 x99.Weight, .int .i64 0, .int .i64 0, .int .i64 0] : List Value).toArray := hp14_
  have e138 : ρ 39 = .int .i64 x99.Weight := hp13_
  obtain ⟨ad139, e140⟩ := hp12_
  have e140 : ρ 38 = .pointer (some ad139) := e140
  try rw [e140] at hs
  obtain ⟨ad141, e142⟩ := hp11_
  have e142 : ρ 37 = .pointer (some ad141) := e142
  try rw [e142] at hs
  have e143 : ρ 36 = .int .i64 x27 := hp10_
  obtain ⟨⟨a144, c145⟩, e146⟩ := hp9_
  have e146 : ρ 35 = .slice a144 (x1.Members).length c145 := e146
  try rw [e146] at hs
  have e147 : ρ 34 = .pointer (some ⟨g6, 0, none⟩) := hp8_
  have e148 : ρ 33 = .int .i64 x92.Server := hp7_
  obtain ⟨ad149, e150⟩ := hp6_
  have e150 : ρ 32 = .pointer (some ad149) := e150
  try rw [e150] at hs
  obtain ⟨ad151, e152⟩ := hp5_
  have e152 : ρ 31 = .pointer (some ad151) := e152
  try rw [e152] at hs
  have e153 : ρ 30 = .int .i64 x27 := hp4_
  obtain ⟨⟨a154, c155⟩, e156⟩ := hp3_
  have e156 : ρ 29 = .slice a154 (x1.Members).length c155 := e156
  try rw [e156] at hs
  have e157 : ρ 28 = .pointer (some ⟨g6, 0, none⟩) := hp2_
  have e158 : ρ 27 = .slice a33 n35 c34 := hp1_
  have e159 : ρ 26 = .pointer (some ⟨g12, 2, none⟩) := hp0_
  refine WA.step [16] (by kernel_rfl) (by simp) ⟨?_, trivial⟩
  obtain ⟨x160, hxx160, hf⟩ := bindE hf
  obtain ⟨hbx160, hex160⟩ := appE hxx160
  refine WL.appendS (zs := x160) hs 0 rfl 0 rfl UN34 UN34 EI59 e158 e136 hbx160 (by omega) hex160 (fun v161 w hs => ?_)
  obtain ⟨a162, n164, c163, rfl⟩ := hs.ownv3 0 rfl
  refine WL.nil ⟨rfl, _, rfl, ?_⟩
  refine WA.step [17] (by kernel_rfl) (by simp) ⟨?_, trivial⟩
  refine WL.fieldAddr (m := 2) ((hu133 3 rfl).trans ((hu68 3 rfl).trans h26_3)) FA36_2 rfl ?_
  refine WL.nil ⟨rfl, _, rfl, ?_⟩
  refine WA.step [18] (by kernel_rfl) (by simp) ⟨?_, trivial⟩
  refine WL.store (vs := [.slice a162 n164 c163]) (cs' := [.slice a86 n88 c87, .slice none 0 0, .slice a162 n164 c163, .int .i64 x1.Rule.Kind, .int .i64 x1.Rule.Columns, .int .i64 x1.Rule.Faulty, .int .i64 0, .int .i64 0, .int .i64 0]) hs 2 rfl TI34 rfl rfl rfl rfl (ones_of rfl) (Nat.le_of_ble_eq_true rfl) rfl (fun w hs => ?_)
  refine WL.nil ⟨rfl, _, rfl, ?_⟩
  refine WA.done (by kernel_rfl) ?_
  refine hK43 _ _ ?_
  refine W.region ?_
  refine WL.move (v := .int .i64 x27) ((hu133 4 rfl).trans ((hu68 4 rfl).trans h26_4)) ?_
  obtain ⟨x165, ex165, hf⟩ := letE hf
  refine WL.bin (v := .int .i64 x165) rfl rfl (ib_as ex165 (ib_add _ _ _)) ?_
  refine WL.assign (v := .int .i64 x165) rfl ?_
  refine WL.nil ?_
  exact ⟨_, (Option.some.inj hf).symm, a86, c87, n88, a162, c163, n164, ((hu133 1 rfl).trans ((hu68 1 rfl).trans h26_1)), ((hu133 2 rfl).trans ((hu68 2 rfl).trans h26_2)), ((hu133 3 rfl).trans ((hu68 3 rfl).trans h26_3)), rfl, (hs.mask [true, true, true, true, true]).pick [12]⟩ } } }
  {
  refine W.cond_false (bool_tr rfl hc42) ?_
  refine W.exit ?_
  have hr := Option.some.inj hf; subst hr
  have hr := hbbs36 _ rfl; subst hr
  have hf := hfs36
  exact Jk23 x28 x32 a29 c30 n31 a33 c34 n35 _ _ h26_2 h26_3 ((hs.mask [true, true, true, true]).pick []) hf }
theorem esref10_Initial.callc {ok : Nat → Prop} {w0 : World} {x1 : api_Genesis} {v2 : Value} {r : api_Summary} (hf : esref10_Initial x1 = some r) (i0 : (vl t_api_Genesis x1 v2).holds ok w0) :
    Calls Tryd.prog 23 #[v2] w0 fun e w' => ∃ v, e = .returned v ∧ ∃ y : List Value, v = .agg y.toArray ∧ St ok (bz w0) w' [vl t_api_Summary r (.agg y.toArray)] [] := by
  refine (esref10_Initial.calls (ok := ok) (w0 := w0) (x1 := x1) hf i0).mono ?_
  rintro e w' ⟨v, rfl, ⟨⟨a168, n169, c170⟩, ⟨a171, n172, c173⟩, ⟨a174, n175, c176⟩⟩, rfl, hs⟩
  obtain rfl := hs.ownLen 0 rfl
  have hs := hs.freezeOwn 0 rfl
  obtain rfl := hs.ownLen 0 rfl
  have hs := hs.freezeOwn 0 rfl
  obtain rfl := hs.ownLen 0 rfl
  have hs := hs.freezeOwn 0 rfl
  have hs := hs.add (it := vl t_api_Summary (⟨r.Joined, r.Removed, r.Weights, (⟨r.Rule.Kind, r.Rule.Columns, r.Rule.Faulty⟩ : api_Rule), r.Version, r.Admin, r.Number⟩ : api_Summary) (.agg [.slice a168 (r.Joined).length c170, .slice a171 (r.Removed).length c173, .slice a174 (r.Weights).length c176, .int .i64 r.Rule.Kind, .int .i64 r.Rule.Columns, .int .i64 r.Rule.Faulty, .int .i64 r.Version, .int .i64 r.Admin, .int .i64 r.Number].toArray)) fun ok hA => V_agg (show t_api_Summary.R ok _ _ _ from ⟨[.slice a168 (r.Joined).length c170], [.slice a171 (r.Removed).length c173, .slice a174 (r.Weights).length c176, .int .i64 r.Rule.Kind, .int .i64 r.Rule.Columns, .int .i64 r.Rule.Faulty, .int .i64 r.Version, .int .i64 r.Admin, .int .i64 r.Number], rfl, (R_one (hA.get 2 rfl)), ⟨[.slice a171 (r.Removed).length c173], [.slice a174 (r.Weights).length c176, .int .i64 r.Rule.Kind, .int .i64 r.Rule.Columns, .int .i64 r.Rule.Faulty, .int .i64 r.Version, .int .i64 r.Admin, .int .i64 r.Number], rfl, (R_one (hA.get 1 rfl)), ⟨[.slice a174 (r.Weights).length c176], [.int .i64 r.Rule.Kind, .int .i64 r.Rule.Columns, .int .i64 r.Rule.Faulty, .int .i64 r.Version, .int .i64 r.Admin, .int .i64 r.Number], rfl, (R_one (hA.get 0 rfl)), ⟨[.int .i64 r.Rule.Kind, .int .i64 r.Rule.Columns, .int .i64 r.Rule.Faulty], [.int .i64 r.Version, .int .i64 r.Admin, .int .i64 r.Number], rfl, ⟨[.int .i64 r.Rule.Kind], [.int .i64 r.Rule.Columns, .int .i64 r.Rule.Faulty], rfl, rfl, ⟨[.int .i64 r.Rule.Columns], [.int .i64 r.Rule.Faulty], rfl, rfl, rfl⟩⟩, ⟨[.int .i64 r.Version], [.int .i64 r.Admin, .int .i64 r.Number], rfl, rfl, ⟨[.int .i64 r.Admin], [.int .i64 r.Number], rfl, rfl, rfl⟩⟩⟩⟩⟩⟩) rfl
  exact ⟨_, rfl, [.slice a168 (r.Joined).length c170, .slice a171 (r.Removed).length c173, .slice a174 (r.Weights).length c176, .int .i64 r.Rule.Kind, .int .i64 r.Rule.Columns, .int .i64 r.Rule.Faulty, .int .i64 r.Version, .int .i64 r.Admin, .int .i64 r.Number], rfl, hs.pick [0]⟩
/-! elasticstore/command.occurs$1: function 70 -/
theorem command_occurs_1.calls {ok : Nat → Prop} {w0 : World} {x1 : api_Change} {x5 : Int} {x7 : Int} {v2 : Value} {ad6 : Addr} {ad8 : Addr} {r : Bool} (hf : command_occurs_1 x1 x5 x7 = some r) (i0 : (vl t_api_Change x1 v2).holds ok w0) (i1 : (pl (tInt .i64) x5 ad6).holds ok w0) (i2 : (pl (tInt .i64) x7 ad8).holds ok w0) :
    Calls Tryd.prog 70 #[v2, .pointer (some ad6), .pointer (some ad8)] w0 fun e w' => ∃ v, e = .returned v ∧ ∃ y : Unit, v = .bool r ∧ St ok (bz w0) w' [] [] := by
  unfold command_occurs_1 at hf
  refine calls_of_W (fn := Tryd.f70) (N := 15) Tryd.func70 rfl Tryd.ntmps70 rfl ?_
  have hs : St ok (bz w0) w0 [vl t_api_Change x1 v2, pl (tInt .i64) x5 ad6, pl (tInt .i64) x7 ad8] [] := St.init (All.cons i0 (All.cons i1 (All.cons i2 All.nil)))
  clear i0 i1 i2
  obtain ⟨cs3, hl4, rfl⟩ := hs.aggv (n := 7) 0 rfl rfl rfl
  refine W.seqK fun K9 hK9 => ?_
  refine W.region ?_
  refine WL.box (vs := cs3) hs rfl rfl (fun g10 w hs => ?_)
  refine WL.assign (v := .bool false) rfl ?_
  refine WL.nil ?_
  refine hK9 _ _ ?_
  refine W.seqK fun K11 hK11 => ?_
  have Jk14 : ∀ (x13 : Bool) (ρ : Env) (w : World), ρ 4 = .bool x13 → St ok (bz w0) w [] [] → command_occurs_1.j1 x13 = some r → K11 ρ w := by
    intro x13 ρ w h12_4 hs hf
    refine hK11 _ _ ?_
    unfold command_occurs_1.j1 at hf
    refine W.ret ?_
    have hr := Option.some.inj hf; subst hr
    exact ⟨_, resOk_one rfl h12_4, (), rfl, (hs.mask []).pick []⟩
  refine W.region ?_
  refine WL.fieldAddr (m := 0) rfl FA26_0 rfl ?_
  refine WL.loadF (z := x1.Kind) F_api_Change_Kind hs 0 rfl 0 rfl rfl TI3 (.inr rfl) rfl rfl (fun v15 hs => ?_)
  obtain rfl := hs.int 0 rfl
  refine WL.loadP hs 2 rfl TI3 (.inr rfl) rfl (fun v16 hs => ?_)
  obtain rfl := hs.int 0 rfl
  refine WL.bin (v := .bool (x1.Kind == x5)) rfl rfl (ib_eql _ _ _) ?_
  refine WL.move (v := .bool (x1.Kind == x5)) rfl ?_
  rcases iteE hf with ⟨hc17, hf⟩ | ⟨hc17, hf⟩
  {
  refine WL.fieldAddr (m := 1) rfl FA26_1 rfl ?_ (hg := (wanted_of rfl rfl (bool_tr rfl hc17)).trans rfl)
  refine WL.loadF (z := x1.Server) F_api_Change_Server hs 0 rfl 2 rfl rfl TI3 (.inr rfl) rfl rfl (fun v18 hs => ?_) (hg := (wanted_of rfl rfl (bool_tr rfl hc17)).trans rfl)
  obtain rfl := hs.int 0 rfl
  refine WL.loadP hs 5 rfl TI3 (.inr rfl) rfl (fun v19 hs => ?_) (hg := (wanted_of rfl rfl (bool_tr rfl hc17)).trans rfl)
  obtain rfl := hs.int 0 rfl
  refine WL.bin (v := .bool (x1.Server == x7)) rfl rfl (ib_eql _ _ _) ?_ (hg := (wanted_of rfl rfl (bool_tr rfl hc17)).trans rfl)
  refine WL.pickT (v := .bool (x1.Server == x7)) (bool_tr rfl hc17) rfl ?_
  refine WL.assign (v := .bool (x1.Server == x7)) rfl ?_
  refine WL.nil ?_
  exact Jk14 (x1.Server == x7) _ _ rfl ((hs.mask []).pick []) hf }
  {
  refine WL.pass ((wanted_of rfl rfl (bool_tr rfl hc17)).trans rfl) rfl ?_
  refine WL.pass ((wanted_of rfl rfl (bool_tr rfl hc17)).trans rfl) rfl ?_
  refine WL.pass ((wanted_of rfl rfl (bool_tr rfl hc17)).trans rfl) rfl ?_
  refine WL.pass ((wanted_of rfl rfl (bool_tr rfl hc17)).trans rfl) rfl ?_
  refine WL.pickF (v := .bool false) (bool_tr rfl hc17) rfl ?_
  refine WL.assign (v := .bool false) rfl ?_
  refine WL.nil ?_
  exact Jk14 false _ _ rfl ((hs.mask []).pick []) hf }
end Go.Proofs.YthfoljpjhegkmaaDoor
