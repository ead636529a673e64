import Derived.Test.YthfoljpjhegkmaaDoorFh
import Derived.Test.YthfoljpjhegkmaaDoorFp0
set_option linter.unusedVariables false
set_option linter.unusedSimpArgs false
namespace Go.Proofs.YthfoljpjhegkmaaDoor
open Go Go.RowKit Go.Proofs.YthfoljpjhegkmaaDoorL
set_option maxRecDepth 100000
set_option maxHeartbeats 4000000
/-! elasticstore/command.syntax: function 24 -/
theorem command_syntax.calls {ok : Nat → Prop} {w0 : World} {x1 : List UInt8}  {r : api_Change × Bool} (hf : command_syntax x1 = some r)  :
    Calls Tryd.prog 24 #[bstr x1] w0 fun e w' => ∃ v, e = .returned v ∧ ∃ y : List Value, v = .tuple #[.agg y.toArray, .bool r.2] ∧ St ok (bz w0) w' [vl t_api_Change r.1 (.agg y.toArray)] [] := by
  unfold command_syntax at hf
  refine calls_of_W (fn := Tryd.f24) (N := 92) Tryd.func24 rfl Tryd.ntmps24 rfl ?_
  have hs : St ok (bz w0) w0 [] [] := St.init All.nil
  refine W.seqK fun K2 hK2 => ?_
  refine W.region ?_
  refine WL.alloc hs ZV26 (fun g3 w hs => ?_)
  refine WL.assign (v := .bool false) rfl ?_
  refine WL.nil ?_
  refine hK2 _ _ ?_
  refine W.seqK fun K4 hK4 => ?_
  refine W.region ?_
  refine WL.move (v := bstr x1) rfl ?_
  obtain ⟨x5, hxx5, hf⟩ := bindE hf
  refine WL.call (vs := [bstr x1, bstr ([32] : List UInt8)]) hs FN36 ⟨rfl, ⟨rfl, trivial⟩⟩ (fun ok hA => strings_Split.calls (x1 := x1) (x2 := ([32] : List UInt8)) hxx5) ?_
  rintro ⟨a6, c7⟩ w hs
  refine WL.assign (v := .slice a6 x5.length c7) rfl ?_
  refine WL.nil ?_
  refine hK4 _ _ ?_
  refine W.seqK fun K8 hK8 => ?_
  refine W.block ?_
  refine W.seqK fun K9 hK9 => ?_
  have Jk12 : ∀ (x11 : Bool) (ρ : Env) (w : World), ρ 2 = .pointer (some ⟨g3, 0, none⟩) → ρ 4 = .slice a6 x5.length c7 → ρ 9 = .bool x11 → St ok (bz w0) w [vl (tSlice tStr) x5 (.slice a6 x5.length c7)] [blk g3 26 [.int .i64 0, .int .i64 0, .int .i64 0, .int .i64 0, .int .i64 0, .int .i64 0, .int .i64 0]] → command_syntax.j4 x5 x11 = some r → K9 ρ w := by
    intro x11 ρ w h10_2 h10_4 h10_9 hs hf
    refine hK9 _ _ ?_
    unfold command_syntax.j4 at hf
    rcases iteE hf with ⟨hc13, hf⟩ | ⟨hc13, hf⟩
    {
    refine W.cond_true (bool_tr h10_9 hc13) ?_
    refine W.seqK fun K14 hK14 => ?_
    refine W.region ?_
    refine WL.build (vs := [(0, .int .i64 1), (2, .int .i64 1)]) (cs := [.int .i64 1, .int .i64 0, .int .i64 1, .int .i64 0, .int .i64 0, .int .i64 0, .int .i64 0]) ⟨⟨rfl, rfl⟩, ⟨⟨rfl, rfl⟩, trivial⟩⟩ (bld PL26 rfl) ?_
    refine WL.move (v := .slice a6 x5.length c7) h10_4 ?_
    have hs := hs.add (it := vl t_api_Change (⟨1, 0, 1, 0, (⟨0, 0, 0⟩ : api_Rule)⟩ : api_Change) (.agg [.int .i64 1, .int .i64 0, .int .i64 1, .int .i64 0, .int .i64 0, .int .i64 0, .int .i64 0].toArray)) fun ok hA => V_agg (show t_api_Change.R ok _ _ _ from ⟨[.int .i64 1], [.int .i64 0, .int .i64 1, .int .i64 0, .int .i64 0, .int .i64 0, .int .i64 0], rfl, rfl, ⟨[.int .i64 0], [.int .i64 1, .int .i64 0, .int .i64 0, .int .i64 0, .int .i64 0], rfl, rfl, ⟨[.int .i64 1], [.int .i64 0, .int .i64 0, .int .i64 0, .int .i64 0], rfl, rfl, ⟨[.int .i64 0], [.int .i64 0, .int .i64 0, .int .i64 0], rfl, rfl, ⟨[.int .i64 0], [.int .i64 0, .int .i64 0], rfl, rfl, ⟨[.int .i64 0], [.int .i64 0], rfl, rfl, rfl⟩⟩⟩⟩⟩⟩) rfl
    obtain ⟨⟨x15, x16⟩, hxx15, hf⟩ := bindE hf
    refine WL.call (vs := [.agg ([.int .i64 1, .int .i64 0, .int .i64 1, .int .i64 0, .int .i64 0, .int .i64 0, .int .i64 0] : List Value).toArray, .slice a6 x5.length c7, .int .i64 0]) hs FN47 ⟨rfl, ⟨rfl, ⟨rfl, trivial⟩⟩⟩ (fun ok hA => command_server.calls (x1 := (⟨1, 0, 1, 0, (⟨0, 0, 0⟩ : api_Rule)⟩ : api_Change)) (x5 := x5) (x8 := 0) hxx15 (hA.get 0 rfl) (hA.get 1 rfl)) ?_
    rintro cs17 w hs
    have hl18 := hs.agglen (n := 7) 0 rfl rfl rfl
    refine WL.extract (v := .agg cs17.toArray) rfl rfl ?_
    refine WL.extract (v := .bool x16) rfl rfl ?_
    refine WL.storeAll (vs := cs17) hs 0 rfl TI26 h10_2 rfl rfl hl18 (hs.ones 0 rfl rfl) rfl (fun w hs => ?_)
    refine WL.assign (v := .bool x16) rfl ?_
    refine WL.nil ?_
    refine hK14 _ _ ?_
    refine W.ret ?_
    have hr := Option.some.inj hf; subst hr
    exact ⟨_, resOk_two rfl (res_all hs 0 rfl TI26 h10_2 hl18) rfl, cs17, rfl, (hs.mask []).pick [0]⟩ }
    {
    refine W.cond_false (bool_tr h10_9 hc13) ?_
    refine W.seqK fun K19 hK19 => ?_
    have Jk22 : ∀ (x21 : Bool) (ρ : Env) (w : World), ρ 2 = .pointer (some ⟨g3, 0, none⟩) → ρ 4 = .slice a6 x5.length c7 → ρ 24 = .bool x21 → St ok (bz w0) w [vl (tSlice tStr) x5 (.slice a6 x5.length c7)] [blk g3 26 [.int .i64 0, .int .i64 0, .int .i64 0, .int .i64 0, .int .i64 0, .int .i64 0, .int .i64 0]] → command_syntax.j3 x5 x21 = some r → K19 ρ w := by
      intro x21 ρ w h20_2 h20_4 h20_24 hs hf
      refine hK19 _ _ ?_
      unfold command_syntax.j3 at hf
      rcases iteE hf with ⟨hc23, hf⟩ | ⟨hc23, hf⟩
      {
      refine W.cond_true (bool_tr h20_24 hc23) ?_
      refine W.seqK fun K24 hK24 => ?_
      refine W.region ?_
      refine WL.build (vs := [(0, .int .i64 1)]) (cs := [.int .i64 1, .int .i64 0, .int .i64 0, .int .i64 0, .int .i64 0, .int .i64 0, .int .i64 0]) ⟨⟨rfl, rfl⟩, trivial⟩ (bld PL26 rfl) ?_
      refine WL.move (v := .slice a6 x5.length c7) h20_4 ?_
      have hs := hs.add (it := vl t_api_Change (⟨1, 0, 0, 0, (⟨0, 0, 0⟩ : api_Rule)⟩ : api_Change) (.agg [.int .i64 1, .int .i64 0, .int .i64 0, .int .i64 0, .int .i64 0, .int .i64 0, .int .i64 0].toArray)) fun ok hA => V_agg (show t_api_Change.R ok _ _ _ from ⟨[.int .i64 1], [.int .i64 0, .int .i64 0, .int .i64 0, .int .i64 0, .int .i64 0, .int .i64 0], rfl, rfl, ⟨[.int .i64 0], [.int .i64 0, .int .i64 0, .int .i64 0, .int .i64 0, .int .i64 0], rfl, rfl, ⟨[.int .i64 0], [.int .i64 0, .int .i64 0, .int .i64 0, .int .i64 0], rfl, rfl, ⟨[.int .i64 0], [.int .i64 0, .int .i64 0, .int .i64 0], rfl, rfl, ⟨[.int .i64 0], [.int .i64 0, .int .i64 0], rfl, rfl, ⟨[.int .i64 0], [.int .i64 0], rfl, rfl, rfl⟩⟩⟩⟩⟩⟩) rfl
      obtain ⟨⟨x25, x26⟩, hxx25, hf⟩ := bindE hf
      refine WL.call (vs := [.agg ([.int .i64 1, .int .i64 0, .int .i64 0, .int .i64 0, .int .i64 0, .int .i64 0, .int .i64 0] : List Value).toArray, .slice a6 x5.length c7, .int .i64 3]) hs FN47 ⟨rfl, ⟨rfl, ⟨rfl, trivial⟩⟩⟩ (fun ok hA => command_server.calls (x1 := (⟨1, 0, 0, 0, (⟨0, 0, 0⟩ : api_Rule)⟩ : api_Change)) (x5 := x5) (x8 := 3) hxx25 (hA.get 0 rfl) (hA.get 1 rfl)) ?_
      rintro cs27 w hs
      have hl28 := hs.agglen (n := 7) 0 rfl rfl rfl
      refine WL.extract (v := .agg cs27.toArray) rfl rfl ?_
      refine WL.extract (v := .bool x26) rfl rfl ?_
      refine WL.storeAll (vs := cs27) hs 0 rfl TI26 h20_2 rfl rfl hl28 (hs.ones 0 rfl rfl) rfl (fun w hs => ?_)
      refine WL.assign (v := .bool x26) rfl ?_
      refine WL.nil ?_
      refine hK24 _ _ ?_
      refine W.ret ?_
      have hr := Option.some.inj hf; subst hr
      exact ⟨_, resOk_two rfl (res_all hs 0 rfl TI26 h20_2 hl28) rfl, cs27, rfl, (hs.mask []).pick [0]⟩ }
      {
      refine W.cond_false (bool_tr h20_24 hc23) ?_
      refine W.seqK fun K29 hK29 => ?_
      have Jk32 : ∀ (x31 : Bool) (ρ : Env) (w : World), ρ 2 = .pointer (some ⟨g3, 0, none⟩) → ρ 4 = .slice a6 x5.length c7 → ρ 45 = .bool x31 → St ok (bz w0) w [vl (tSlice tStr) x5 (.slice a6 x5.length c7)] [blk g3 26 [.int .i64 0, .int .i64 0, .int .i64 0, .int .i64 0, .int .i64 0, .int .i64 0, .int .i64 0]] → command_syntax.j2 x5 x31 = some r → K29 ρ w := by
        intro x31 ρ w h30_2 h30_4 h30_45 hs hf
        refine hK29 _ _ ?_
        unfold command_syntax.j2 at hf
        rcases iteE hf with ⟨hc33, hf⟩ | ⟨hc33, hf⟩
        {
        refine W.cond_true (bool_tr h30_45 hc33) ?_
        refine W.seqK fun K34 hK34 => ?_
        refine W.region ?_
        refine WL.build (vs := [(0, .int .i64 2)]) (cs := [.int .i64 2, .int .i64 0, .int .i64 0, .int .i64 0, .int .i64 0, .int .i64 0, .int .i64 0]) ⟨⟨rfl, rfl⟩, trivial⟩ (bld PL26 rfl) ?_
        refine WL.move (v := .slice a6 x5.length c7) h30_4 ?_
        have hs := hs.add (it := vl t_api_Change (⟨2, 0, 0, 0, (⟨0, 0, 0⟩ : api_Rule)⟩ : api_Change) (.agg [.int .i64 2, .int .i64 0, .int .i64 0, .int .i64 0, .int .i64 0, .int .i64 0, .int .i64 0].toArray)) fun ok hA => V_agg (show t_api_Change.R ok _ _ _ from ⟨[.int .i64 2], [.int .i64 0, .int .i64 0, .int .i64 0, .int .i64 0, .int .i64 0, .int .i64 0], rfl, rfl, ⟨[.int .i64 0], [.int .i64 0, .int .i64 0, .int .i64 0, .int .i64 0, .int .i64 0], rfl, rfl, ⟨[.int .i64 0], [.int .i64 0, .int .i64 0, .int .i64 0, .int .i64 0], rfl, rfl, ⟨[.int .i64 0], [.int .i64 0, .int .i64 0, .int .i64 0], rfl, rfl, ⟨[.int .i64 0], [.int .i64 0, .int .i64 0], rfl, rfl, ⟨[.int .i64 0], [.int .i64 0], rfl, rfl, rfl⟩⟩⟩⟩⟩⟩) rfl
        obtain ⟨⟨x35, x36⟩, hxx35, hf⟩ := bindE hf
        refine WL.call (vs := [.agg ([.int .i64 2, .int .i64 0, .int .i64 0, .int .i64 0, .int .i64 0, .int .i64 0, .int .i64 0] : List Value).toArray, .slice a6 x5.length c7, .int .i64 0]) hs FN47 ⟨rfl, ⟨rfl, ⟨rfl, trivial⟩⟩⟩ (fun ok hA => command_server.calls (x1 := (⟨2, 0, 0, 0, (⟨0, 0, 0⟩ : api_Rule)⟩ : api_Change)) (x5 := x5) (x8 := 0) hxx35 (hA.get 0 rfl) (hA.get 1 rfl)) ?_
        rintro cs37 w hs
        have hl38 := hs.agglen (n := 7) 0 rfl rfl rfl
        refine WL.extract (v := .agg cs37.toArray) rfl rfl ?_
        refine WL.extract (v := .bool x36) rfl rfl ?_
        refine WL.storeAll (vs := cs37) hs 0 rfl TI26 h30_2 rfl rfl hl38 (hs.ones 0 rfl rfl) rfl (fun w hs => ?_)
        refine WL.assign (v := .bool x36) rfl ?_
        refine WL.nil ?_
        refine hK34 _ _ ?_
        refine W.ret ?_
        have hr := Option.some.inj hf; subst hr
        exact ⟨_, resOk_two rfl (res_all hs 0 rfl TI26 h30_2 hl38) rfl, cs37, rfl, (hs.mask []).pick [0]⟩ }
        {
        refine W.cond_false (bool_tr h30_45 hc33) ?_
        refine W.seqK fun K39 hK39 => ?_
        have Jk42 : ∀ (x41 : Bool) (ρ : Env) (w : World), ρ 2 = .pointer (some ⟨g3, 0, none⟩) → ρ 4 = .slice a6 x5.length c7 → ρ 60 = .bool x41 → St ok (bz w0) w [vl (tSlice tStr) x5 (.slice a6 x5.length c7)] [blk g3 26 [.int .i64 0, .int .i64 0, .int .i64 0, .int .i64 0, .int .i64 0, .int .i64 0, .int .i64 0]] → command_syntax.j1 x5 x41 = some r → K39 ρ w := by
          intro x41 ρ w h40_2 h40_4 h40_60 hs hf
          refine hK39 _ _ ?_
          unfold command_syntax.j1 at hf
          rcases iteE hf with ⟨hc43, hf⟩ | ⟨hc43, hf⟩
          {
          refine W.cond_true (bool_tr h40_60 hc43) ?_
          refine W.seqK fun K44 hK44 => ?_
          refine W.region ?_
          refine WL.build (vs := [(0, .int .i64 3)]) (cs := [.int .i64 3, .int .i64 0, .int .i64 0, .int .i64 0, .int .i64 0, .int .i64 0, .int .i64 0]) ⟨⟨rfl, rfl⟩, trivial⟩ (bld PL26 rfl) ?_
          refine WL.move (v := .slice a6 x5.length c7) h40_4 ?_
          have hs := hs.add (it := vl t_api_Change (⟨3, 0, 0, 0, (⟨0, 0, 0⟩ : api_Rule)⟩ : api_Change) (.agg [.int .i64 3, .int .i64 0, .int .i64 0, .int .i64 0, .int .i64 0, .int .i64 0, .int .i64 0].toArray)) fun ok hA => V_agg (show t_api_Change.R ok _ _ _ from ⟨[.int .i64 3], [.int .i64 0, .int .i64 0, .int .i64 0, .int .i64 0, .int .i64 0, .int .i64 0], rfl, rfl, ⟨[.int .i64 0], [.int .i64 0, .int .i64 0, .int .i64 0, .int .i64 0, .int .i64 0], rfl, rfl, ⟨[.int .i64 0], [.int .i64 0, .int .i64 0, .int .i64 0, .int .i64 0], rfl, rfl, ⟨[.int .i64 0], [.int .i64 0, .int .i64 0, .int .i64 0], rfl, rfl, ⟨[.int .i64 0], [.int .i64 0, .int .i64 0], rfl, rfl, ⟨[.int .i64 0], [.int .i64 0], rfl, rfl, rfl⟩⟩⟩⟩⟩⟩) rfl
          obtain ⟨⟨x45, x46⟩, hxx45, hf⟩ := bindE hf
          refine WL.call (vs := [.agg ([.int .i64 3, .int .i64 0, .int .i64 0, .int .i64 0, .int .i64 0, .int .i64 0, .int .i64 0] : List Value).toArray, .slice a6 x5.length c7, .int .i64 2]) hs FN47 ⟨rfl, ⟨rfl, ⟨rfl, trivial⟩⟩⟩ (fun ok hA => command_server.calls (x1 := (⟨3, 0, 0, 0, (⟨0, 0, 0⟩ : api_Rule)⟩ : api_Change)) (x5 := x5) (x8 := 2) hxx45 (hA.get 0 rfl) (hA.get 1 rfl)) ?_
          rintro cs47 w hs
          have hl48 := hs.agglen (n := 7) 0 rfl rfl rfl
          refine WL.extract (v := .agg cs47.toArray) rfl rfl ?_
          refine WL.extract (v := .bool x46) rfl rfl ?_
          refine WL.storeAll (vs := cs47) hs 0 rfl TI26 h40_2 rfl rfl hl48 (hs.ones 0 rfl rfl) rfl (fun w hs => ?_)
          refine WL.assign (v := .bool x46) rfl ?_
          refine WL.nil ?_
          refine hK44 _ _ ?_
          refine W.ret ?_
          have hr := Option.some.inj hf; subst hr
          exact ⟨_, resOk_two rfl (res_all hs 0 rfl TI26 h40_2 hl48) rfl, cs47, rfl, (hs.mask []).pick [0]⟩ }
          {
          refine W.cond_false (bool_tr h40_60 hc43) ?_
          refine W.seqK fun K49 hK49 => ?_
          refine W.region ?_
          refine WL.move (v := .slice a6 x5.length c7) h40_4 ?_
          obtain ⟨x50, hxx50, hf⟩ := bindE hf
          refine WL.indexAddr hs 0 rfl UN44 TI9 rfl rfl hxx50 (fun ad51 hs => ?_)
          refine WL.loadP hs 0 rfl TI9 (.inr rfl) rfl (fun v52 hs => ?_)
          obtain rfl := hs.str 0 rfl
          refine WL.binS (v := .bool (x50 == ([114, 117, 108, 101] : List UInt8))) rfl rfl (sb_eql _ _) ?_
          refine WL.assign (v := .bool (x50 == ([114, 117, 108, 101] : List UInt8))) rfl ?_
          refine WL.nil ?_
          refine hK49 _ _ ?_
          rcases iteE hf with ⟨hc53, hf⟩ | ⟨hc53, hf⟩
          {
          refine W.cond_true (bool_tr rfl hc53) ?_
          refine W.seqK fun K54 hK54 => ?_
          refine W.region ?_
          refine WL.move (v := .slice a6 x5.length c7) h40_4 ?_
          obtain ⟨x55, hxx55, hf⟩ := bindE hf
          refine WL.slice_l hs 2 rfl UN44 TI9 rfl rfl hxx55 (fun a56 c57 hs => ?_)
          obtain ⟨⟨x58, x59⟩, hxx58, hf⟩ := bindE hf
          refine WL.call (vs := [.slice a56 x55.length c57]) hs FN48 ⟨rfl, trivial⟩ (fun ok hA => command_rule.calls (x1 := x55) hxx58 (hA.get 0 rfl)) ?_
          rintro cs60 w hs
          have hl61 := hs.agglen (n := 3) 0 rfl rfl rfl
          refine WL.move (v := .tuple #[.agg cs60.toArray, .bool x59]) rfl ?_
          refine WL.extract (v := .agg cs60.toArray) rfl rfl ?_
          refine WL.extract (v := .bool x59) rfl rfl ?_
          refine WL.alloc hs ZV24 (fun g62 w hs => ?_)
          refine WL.storeAll (vs := cs60) hs 0 rfl TI24 rfl rfl rfl hl61 (hs.ones 0 rfl rfl) rfl (fun w hs => ?_)
          refine WL.assign (v := .bool x59) rfl ?_
          refine WL.nil ?_
          refine hK54 _ _ ?_
          refine W.seqK fun K63 hK63 => ?_
          refine W.seqK fun K64 hK64 => ?_
          refine W.region ?_
          refine WL.move (v := .bool x59) rfl ?_
          refine WL.not rfl ?_
          refine WL.nil ?_
          refine hK64 _ _ ?_
          rcases iteE hf with ⟨hc65, hf⟩ | ⟨hc65, hf⟩
          {
          refine W.cond_true (bool_tr rfl hc65) ?_
          refine W.seqK fun K66 hK66 => ?_
          refine W.region ?_
          refine WL.build (vs := []) (cs := [.int .i64 0, .int .i64 0, .int .i64 0, .int .i64 0, .int .i64 0, .int .i64 0, .int .i64 0]) trivial (bld PL26 rfl) ?_
          refine WL.storeAll (vs := [.int .i64 0, .int .i64 0, .int .i64 0, .int .i64 0, .int .i64 0, .int .i64 0, .int .i64 0]) hs 1 rfl TI26 h40_2 rfl rfl rfl (ones_of rfl) rfl (fun w hs => ?_)
          refine WL.assign (v := .bool false) rfl ?_
          refine WL.nil ?_
          refine hK66 _ _ ?_
          refine W.ret ?_
          have hr := Option.some.inj hf; subst hr
          have hs := hs.add (it := vl t_api_Change (⟨0, 0, 0, 0, (⟨0, 0, 0⟩ : api_Rule)⟩ : api_Change) (.agg [.int .i64 0, .int .i64 0, .int .i64 0, .int .i64 0, .int .i64 0, .int .i64 0, .int .i64 0].toArray)) fun ok hA => V_agg (show t_api_Change.R ok _ _ _ from ⟨[.int .i64 0], [.int .i64 0, .int .i64 0, .int .i64 0, .int .i64 0, .int .i64 0, .int .i64 0], rfl, rfl, ⟨[.int .i64 0], [.int .i64 0, .int .i64 0, .int .i64 0, .int .i64 0, .int .i64 0], rfl, rfl, ⟨[.int .i64 0], [.int .i64 0, .int .i64 0, .int .i64 0, .int .i64 0], rfl, rfl, ⟨[.int .i64 0], [.int .i64 0, .int .i64 0, .int .i64 0], rfl, rfl, ⟨[.int .i64 0], [.int .i64 0, .int .i64 0], rfl, rfl, ⟨[.int .i64 0], [.int .i64 0], rfl, rfl, rfl⟩⟩⟩⟩⟩⟩) rfl
          exact ⟨_, resOk_two rfl (res_all hs 1 rfl TI26 h40_2 rfl) rfl, [.int .i64 0, .int .i64 0, .int .i64 0, .int .i64 0, .int .i64 0, .int .i64 0, .int .i64 0], rfl, (hs.mask []).pick [0]⟩ }
          {
          refine W.cond_false (bool_tr rfl hc65) ?_
          refine W.skip ?_
          refine hK63 _ _ ?_
          refine W.seqK fun K67 hK67 => ?_
          refine W.region ?_
          refine WL.loadAll hs 0 rfl TI24 rfl hl61 ?_
          refine WL.build (vs := [(0, .int .i64 4), (4, .agg cs60.toArray)]) (cs := ([.int .i64 4, .int .i64 0, .int .i64 0, .int .i64 0] : List Value) ++ cs60) ⟨⟨rfl, rfl⟩, ⟨⟨rfl, rfl⟩, trivial⟩⟩ (bld PL26 (by simp [fillL, Value.cells, hl61])) ?_
          refine WL.storeAll (vs := ([.int .i64 4, .int .i64 0, .int .i64 0, .int .i64 0] : List Value) ++ cs60) hs 1 rfl TI26 h40_2 rfl rfl (by simp [hl61]) (ones_app (ones_of (l := [.int .i64 4, .int .i64 0, .int .i64 0, .int .i64 0]) rfl) (hs.ones 0 rfl rfl)) rfl (fun w hs => ?_)
          refine WL.assign (v := .bool true) rfl ?_
          refine WL.nil ?_
          refine hK67 _ _ ?_
          refine W.ret ?_
          have hr := Option.some.inj hf; subst hr
          have hs := hs.add (it := vl t_api_Change (⟨4, 0, 0, 0, x58⟩ : api_Change) (.agg (([.int .i64 4, .int .i64 0, .int .i64 0, .int .i64 0] : List Value) ++ cs60).toArray)) fun ok hA => V_agg (show t_api_Change.R ok _ _ _ from ⟨[.int .i64 4], (([.int .i64 0, .int .i64 0, .int .i64 0] : List Value) ++ cs60), by simp, rfl, ⟨[.int .i64 0], (([.int .i64 0, .int .i64 0] : List Value) ++ cs60), by simp, rfl, ⟨[.int .i64 0], (([.int .i64 0] : List Value) ++ cs60), by simp, rfl, ⟨[.int .i64 0], cs60, by simp, rfl, (R_agg (hA.get 0 rfl) rfl)⟩⟩⟩⟩) rfl
          exact ⟨_, resOk_two rfl (res_all hs 1 rfl TI26 h40_2 (by simp [hl61])) rfl, ([.int .i64 4, .int .i64 0, .int .i64 0, .int .i64 0] : List Value) ++ cs60, rfl, (hs.mask []).pick [0]⟩ } }
          {
          refine W.cond_false (bool_tr rfl hc53) ?_
          refine W.skip ?_
          refine hK8 _ _ ?_
          refine W.seqK fun K68 hK68 => ?_
          refine W.region ?_
          refine WL.build (vs := []) (cs := [.int .i64 0, .int .i64 0, .int .i64 0, .int .i64 0, .int .i64 0, .int .i64 0, .int .i64 0]) trivial (bld PL26 rfl) ?_
          refine WL.storeAll (vs := [.int .i64 0, .int .i64 0, .int .i64 0, .int .i64 0, .int .i64 0, .int .i64 0, .int .i64 0]) hs 0 rfl TI26 h40_2 rfl rfl rfl (ones_of rfl) rfl (fun w hs => ?_)
          refine WL.assign (v := .bool false) rfl ?_
          refine WL.nil ?_
          refine hK68 _ _ ?_
          refine W.ret ?_
          have hr := Option.some.inj hf; subst hr
          have hs := hs.add (it := vl t_api_Change (⟨0, 0, 0, 0, (⟨0, 0, 0⟩ : api_Rule)⟩ : api_Change) (.agg [.int .i64 0, .int .i64 0, .int .i64 0, .int .i64 0, .int .i64 0, .int .i64 0, .int .i64 0].toArray)) fun ok hA => V_agg (show t_api_Change.R ok _ _ _ from ⟨[.int .i64 0], [.int .i64 0, .int .i64 0, .int .i64 0, .int .i64 0, .int .i64 0, .int .i64 0], rfl, rfl, ⟨[.int .i64 0], [.int .i64 0, .int .i64 0, .int .i64 0, .int .i64 0, .int .i64 0], rfl, rfl, ⟨[.int .i64 0], [.int .i64 0, .int .i64 0, .int .i64 0, .int .i64 0], rfl, rfl, ⟨[.int .i64 0], [.int .i64 0, .int .i64 0, .int .i64 0], rfl, rfl, ⟨[.int .i64 0], [.int .i64 0, .int .i64 0], rfl, rfl, ⟨[.int .i64 0], [.int .i64 0], rfl, rfl, rfl⟩⟩⟩⟩⟩⟩) rfl
          exact ⟨_, resOk_two rfl (res_all hs 0 rfl TI26 h40_2 rfl) rfl, [.int .i64 0, .int .i64 0, .int .i64 0, .int .i64 0, .int .i64 0, .int .i64 0, .int .i64 0], rfl, (hs.mask []).pick [0]⟩ } }
        refine W.region ?_
        refine WL.move (v := .slice a6 x5.length c7) h30_4 ?_
        obtain ⟨x69, hxx69, hf⟩ := bindE hf
        refine WL.indexAddr hs 0 rfl UN44 TI9 rfl rfl hxx69 (fun ad70 hs => ?_)
        refine WL.loadP hs 0 rfl TI9 (.inr rfl) rfl (fun v71 hs => ?_)
        obtain rfl := hs.str 0 rfl
        refine WL.binS (v := .bool (x69 == ([119, 101, 105, 103, 104, 116] : List UInt8))) rfl rfl (sb_eql _ _) ?_
        refine WL.move (v := .bool (x69 == ([119, 101, 105, 103, 104, 116] : List UInt8))) rfl ?_
        rcases iteE hf with ⟨hc72, hf⟩ | ⟨hc72, hf⟩
        {
        refine WL.move (v := .slice a6 x5.length c7) h30_4 ?_ (hg := (wanted_of rfl rfl (bool_tr rfl hc72)).trans rfl)
        refine WL.len (v := .slice a6 x5.length c7) rfl (len_slice UN44) ?_ (hg := (wanted_of rfl rfl (bool_tr rfl hc72)).trans rfl)
        refine WL.bin (v := .bool ((x5.length : Int) == 3)) rfl rfl (ib_eql _ _ _) ?_ (hg := (wanted_of rfl rfl (bool_tr rfl hc72)).trans rfl)
        refine WL.pickT (v := .bool ((x5.length : Int) == 3)) (bool_tr rfl hc72) rfl ?_
        refine WL.assign (v := .bool ((x5.length : Int) == 3)) rfl ?_
        refine WL.nil ?_
        exact Jk42 ((x5.length : Int) == 3) _ _ h30_2 h30_4 rfl ((hs.mask [true]).pick [2]) hf }
        {
        refine WL.pass ((wanted_of rfl rfl (bool_tr rfl hc72)).trans rfl) rfl ?_
        refine WL.pass ((wanted_of rfl rfl (bool_tr rfl hc72)).trans rfl) rfl ?_
        refine WL.pass ((wanted_of rfl rfl (bool_tr rfl hc72)).trans rfl) rfl ?_
        refine WL.pickF (v := .bool false) (bool_tr rfl hc72) rfl ?_
        refine WL.assign (v := .bool false) rfl ?_
        refine WL.nil ?_
        exact Jk42 false _ _ h30_2 h30_4 rfl ((hs.mask [true]).pick [2]) hf } }
      refine W.region ?_
      refine WL.move (v := .slice a6 x5.length c7) h20_4 ?_
      obtain ⟨x73, hxx73, hf⟩ := bindE hf
      refine WL.indexAddr hs 0 rfl UN44 TI9 rfl rfl hxx73 (fun ad74 hs => ?_)
      refine WL.loadP hs 0 rfl TI9 (.inr rfl) rfl (fun v75 hs => ?_)
      obtain rfl := hs.str 0 rfl
      refine WL.binS (v := .bool (x73 == ([114, 101, 109, 111, 118, 101] : List UInt8))) rfl rfl (sb_eql _ _) ?_
      refine WL.move (v := .bool (x73 == ([114, 101, 109, 111, 118, 101] : List UInt8))) rfl ?_
      rcases iteE hf with ⟨hc76, hf⟩ | ⟨hc76, hf⟩
      {
      refine WL.move (v := .slice a6 x5.length c7) h20_4 ?_ (hg := (wanted_of rfl rfl (bool_tr rfl hc76)).trans rfl)
      refine WL.len (v := .slice a6 x5.length c7) rfl (len_slice UN44) ?_ (hg := (wanted_of rfl rfl (bool_tr rfl hc76)).trans rfl)
      refine WL.bin (v := .bool ((x5.length : Int) == 2)) rfl rfl (ib_eql _ _ _) ?_ (hg := (wanted_of rfl rfl (bool_tr rfl hc76)).trans rfl)
      refine WL.pickT (v := .bool ((x5.length : Int) == 2)) (bool_tr rfl hc76) rfl ?_
      refine WL.assign (v := .bool ((x5.length : Int) == 2)) rfl ?_
      refine WL.nil ?_
      exact Jk32 ((x5.length : Int) == 2) _ _ h20_2 h20_4 rfl ((hs.mask [true]).pick [2]) hf }
      {
      refine WL.pass ((wanted_of rfl rfl (bool_tr rfl hc76)).trans rfl) rfl ?_
      refine WL.pass ((wanted_of rfl rfl (bool_tr rfl hc76)).trans rfl) rfl ?_
      refine WL.pass ((wanted_of rfl rfl (bool_tr rfl hc76)).trans rfl) rfl ?_
      refine WL.pickF (v := .bool false) (bool_tr rfl hc76) rfl ?_
      refine WL.assign (v := .bool false) rfl ?_
      refine WL.nil ?_
      exact Jk32 false _ _ h20_2 h20_4 rfl ((hs.mask [true]).pick [2]) hf } }
    refine W.region ?_
    refine WL.move (v := .slice a6 x5.length c7) h10_4 ?_
    obtain ⟨x77, hxx77, hf⟩ := bindE hf
    refine WL.indexAddr hs 0 rfl UN44 TI9 rfl rfl hxx77 (fun ad78 hs => ?_)
    refine WL.loadP hs 0 rfl TI9 (.inr rfl) rfl (fun v79 hs => ?_)
    obtain rfl := hs.str 0 rfl
    refine WL.binS (v := .bool (x77 == ([106, 111, 105, 110] : List UInt8))) rfl rfl (sb_eql _ _) ?_
    refine WL.move (v := .bool (x77 == ([106, 111, 105, 110] : List UInt8))) rfl ?_
    rcases iteE hf with ⟨hc80, hf⟩ | ⟨hc80, hf⟩
    {
    refine WL.move (v := .slice a6 x5.length c7) h10_4 ?_ (hg := (wanted_of rfl rfl (bool_tr rfl hc80)).trans rfl)
    refine WL.len (v := .slice a6 x5.length c7) rfl (len_slice UN44) ?_ (hg := (wanted_of rfl rfl (bool_tr rfl hc80)).trans rfl)
    refine WL.bin (v := .bool ((x5.length : Int) == 4)) rfl rfl (ib_eql _ _ _) ?_ (hg := (wanted_of rfl rfl (bool_tr rfl hc80)).trans rfl)
    refine WL.pickT (v := .bool ((x5.length : Int) == 4)) (bool_tr rfl hc80) rfl ?_
    refine WL.move (v := .bool ((x5.length : Int) == 4)) rfl ?_
    rcases iteE hf with ⟨hc81, hf⟩ | ⟨hc81, hf⟩
    {
    refine WL.move (v := .slice a6 x5.length c7) h10_4 ?_ (hg := (wanted_of rfl rfl (bool_tr rfl hc81)).trans rfl)
    obtain ⟨x82, hxx82, hf⟩ := bindE hf
    refine WL.indexAddr hs 2 rfl UN44 TI9 rfl rfl hxx82 (fun ad83 hs => ?_) (hg := (wanted_of rfl rfl (bool_tr rfl hc81)).trans rfl)
    refine WL.loadP hs 0 rfl TI9 (.inr rfl) rfl (fun v84 hs => ?_) (hg := (wanted_of rfl rfl (bool_tr rfl hc81)).trans rfl)
    obtain rfl := hs.str 0 rfl
    refine WL.binS (v := .bool (x82 == ([119, 101, 105, 103, 104, 116] : List UInt8))) rfl rfl (sb_eql _ _) ?_ (hg := (wanted_of rfl rfl (bool_tr rfl hc81)).trans rfl)
    refine WL.pickT (v := .bool (x82 == ([119, 101, 105, 103, 104, 116] : List UInt8))) (bool_tr rfl hc81) rfl ?_
    refine WL.assign (v := .bool (x82 == ([119, 101, 105, 103, 104, 116] : List UInt8))) rfl ?_
    refine WL.nil ?_
    exact Jk22 (x82 == ([119, 101, 105, 103, 104, 116] : List UInt8)) _ _ h10_2 h10_4 rfl ((hs.mask [true]).pick [4]) hf }
    {
    refine WL.pass ((wanted_of rfl rfl (bool_tr rfl hc81)).trans rfl) rfl ?_
    refine WL.pass ((wanted_of rfl rfl (bool_tr rfl hc81)).trans rfl) rfl ?_
    refine WL.pass ((wanted_of rfl rfl (bool_tr rfl hc81)).trans rfl) rfl ?_
    refine WL.pass ((wanted_of rfl rfl (bool_tr rfl hc81)).trans rfl) rfl ?_
    refine WL.pickF (v := .bool false) (bool_tr rfl hc81) rfl ?_
    refine WL.assign (v := .bool false) rfl ?_
    refine WL.nil ?_
    exact Jk22 false _ _ h10_2 h10_4 rfl ((hs.mask [true]).pick [2]) hf } }
    {
    refine WL.pass ((wanted_of rfl rfl (bool_tr rfl hc80)).trans rfl) rfl ?_
    refine WL.pass ((wanted_of rfl rfl (bool_tr rfl hc80)).trans rfl) rfl ?_
    refine WL.pass ((wanted_of rfl rfl (bool_tr rfl hc80)).trans rfl) rfl ?_
    refine WL.pickF (v := .bool false) (bool_tr rfl hc80) rfl ?_
    refine WL.move (v := .bool false) rfl ?_
    refine WL.pass ((wanted_of rfl rfl rfl).trans rfl) rfl ?_
    refine WL.pass ((wanted_of rfl rfl rfl).trans rfl) rfl ?_
    refine WL.pass ((wanted_of rfl rfl rfl).trans rfl) rfl ?_
    refine WL.pass ((wanted_of rfl rfl rfl).trans rfl) rfl ?_
    refine WL.pickF (v := .bool false) rfl rfl ?_
    refine WL.assign (v := .bool false) rfl ?_
    refine WL.nil ?_
    exact Jk22 false _ _ h10_2 h10_4 rfl ((hs.mask [true]).pick [2]) hf } }
  refine W.region ?_
  refine WL.move (v := .slice a6 x5.length c7) rfl ?_
  obtain ⟨x85, hxx85, hf⟩ := bindE hf
  refine WL.indexAddr hs 0 rfl UN44 TI9 rfl rfl hxx85 (fun ad86 hs => ?_)
  refine WL.loadP hs 0 rfl TI9 (.inr rfl) rfl (fun v87 hs => ?_)
  obtain rfl := hs.str 0 rfl
  refine WL.binS (v := .bool (x85 == ([106, 111, 105, 110] : List UInt8))) rfl rfl (sb_eql _ _) ?_
  refine WL.move (v := .bool (x85 == ([106, 111, 105, 110] : List UInt8))) rfl ?_
  rcases iteE hf with ⟨hc88, hf⟩ | ⟨hc88, hf⟩
  {
  refine WL.move (v := .slice a6 x5.length c7) rfl ?_ (hg := (wanted_of rfl rfl (bool_tr rfl hc88)).trans rfl)
  refine WL.len (v := .slice a6 x5.length c7) rfl (len_slice UN44) ?_ (hg := (wanted_of rfl rfl (bool_tr rfl hc88)).trans rfl)
  refine WL.bin (v := .bool ((x5.length : Int) == 2)) rfl rfl (ib_eql _ _ _) ?_ (hg := (wanted_of rfl rfl (bool_tr rfl hc88)).trans rfl)
  refine WL.pickT (v := .bool ((x5.length : Int) == 2)) (bool_tr rfl hc88) rfl ?_
  refine WL.assign (v := .bool ((x5.length : Int) == 2)) rfl ?_
  refine WL.nil ?_
  exact Jk12 ((x5.length : Int) == 2) _ _ rfl rfl rfl ((hs.mask [true]).pick [2]) hf }
  {
  refine WL.pass ((wanted_of rfl rfl (bool_tr rfl hc88)).trans rfl) rfl ?_
  refine WL.pass ((wanted_of rfl rfl (bool_tr rfl hc88)).trans rfl) rfl ?_
  refine WL.pass ((wanted_of rfl rfl (bool_tr rfl hc88)).trans rfl) rfl ?_
  refine WL.pickF (v := .bool false) (bool_tr rfl hc88) rfl ?_
  refine WL.assign (v := .bool false) rfl ?_
  refine WL.nil ?_
  exact Jk12 false _ _ rfl rfl rfl ((hs.mask [true]).pick [2]) hf }
/-! elasticstore/command.versioned: function 26 -/
theorem command_versioned.calls {ok : Nat → Prop} {w0 : World} {x1 : api_Change} {v2 : Value} {r : api_Change} (hf : command_versioned x1 = some r) (i0 : (vl t_api_Change x1 v2).holds ok w0) :
    Calls Tryd.prog 26 #[v2] w0 fun e w' => ∃ v, e = .returned v ∧ ∃ y : List Value, v = .agg y.toArray ∧ St ok (bz w0) w' [vl t_api_Change r (.agg y.toArray)] [] := by
  unfold command_versioned at hf
  refine calls_of_W (fn := Tryd.f26) (N := 14) Tryd.func26 rfl Tryd.ntmps26 rfl ?_
  have hs : St ok (bz w0) w0 [vl t_api_Change x1 v2] [] := St.init (All.cons i0 All.nil)
  clear i0
  obtain ⟨cs3, hl4, rfl⟩ := hs.aggv (n := 7) 0 rfl rfl rfl
  refine W.seqK fun K5 hK5 => ?_
  refine W.region ?_
  obtain rfl := open_api_Change hs 0 rfl
  refine WL.box (vs := [.int .i64 x1.Kind, .int .i64 x1.Server, .int .i64 x1.Weight, .int .i64 x1.Version, .int .i64 x1.Rule.Kind, .int .i64 x1.Rule.Columns, .int .i64 x1.Rule.Faulty]) hs rfl rfl (fun g6 w hs => ?_)
  refine WL.alloc hs ZV26 (fun g7 w hs => ?_)
  refine WL.nil ?_
  refine hK5 _ _ ?_
  refine W.seqK fun K8 hK8 => ?_
  have Jk11 : ∀ (x10 : Int) (ρ : Env) (w : World), ρ 1 = .pointer (some ⟨g6, 0, none⟩) → ρ 2 = .pointer (some ⟨g7, 0, none⟩) → St ok (bz w0) w [] [blk g7 26 [.int .i64 0, .int .i64 0, .int .i64 0, .int .i64 0, .int .i64 0, .int .i64 0, .int .i64 0], blk g6 26 [.int .i64 x1.Kind, .int .i64 x1.Server, .int .i64 x1.Weight, .int .i64 x10, .int .i64 x1.Rule.Kind, .int .i64 x1.Rule.Columns, .int .i64 x1.Rule.Faulty]] → command_versioned.j1 x1 x10 = some r → K8 ρ w := by
    intro x10 ρ w h9_1 h9_2 hs hf
    refine hK8 _ _ ?_
    unfold command_versioned.j1 at hf
    refine W.seqK fun K12 hK12 => ?_
    refine W.region ?_
    refine WL.loadN (vs := [.int .i64 x1.Kind, .int .i64 x1.Server, .int .i64 x1.Weight, .int .i64 x10, .int .i64 x1.Rule.Kind, .int .i64 x1.Rule.Columns, .int .i64 x1.Rule.Faulty]) hs 1 rfl TI26 h9_1 rfl rfl ?_
    refine WL.storeAll (vs := [.int .i64 x1.Kind, .int .i64 x1.Server, .int .i64 x1.Weight, .int .i64 x10, .int .i64 x1.Rule.Kind, .int .i64 x1.Rule.Columns, .int .i64 x1.Rule.Faulty]) hs 0 rfl TI26 h9_2 rfl rfl rfl (ones_of rfl) rfl (fun w hs => ?_)
    refine WL.nil ?_
    refine hK12 _ _ ?_
    refine W.ret ?_
    have hr := Option.some.inj hf; subst hr
    have hs := hs.add (it := vl t_api_Change (⟨x1.Kind, x1.Server, x1.Weight, x10, (⟨x1.Rule.Kind, x1.Rule.Columns, x1.Rule.Faulty⟩ : api_Rule)⟩ : api_Change) (.agg [.int .i64 x1.Kind, .int .i64 x1.Server, .int .i64 x1.Weight, .int .i64 x10, .int .i64 x1.Rule.Kind, .int .i64 x1.Rule.Columns, .int .i64 x1.Rule.Faulty].toArray)) fun ok hA => V_agg (show t_api_Change.R ok _ _ _ from ⟨[.int .i64 x1.Kind], [.int .i64 x1.Server, .int .i64 x1.Weight, .int .i64 x10, .int .i64 x1.Rule.Kind, .int .i64 x1.Rule.Columns, .int .i64 x1.Rule.Faulty], rfl, rfl, ⟨[.int .i64 x1.Server], [.int .i64 x1.Weight, .int .i64 x10, .int .i64 x1.Rule.Kind, .int .i64 x1.Rule.Columns, .int .i64 x1.Rule.Faulty], rfl, rfl, ⟨[.int .i64 x1.Weight], [.int .i64 x10, .int .i64 x1.Rule.Kind, .int .i64 x1.Rule.Columns, .int .i64 x1.Rule.Faulty], rfl, rfl, ⟨[.int .i64 x10], [.int .i64 x1.Rule.Kind, .int .i64 x1.Rule.Columns, .int .i64 x1.Rule.Faulty], rfl, rfl, ⟨[.int .i64 x1.Rule.Kind], [.int .i64 x1.Rule.Columns, .int .i64 x1.Rule.Faulty], rfl, rfl, ⟨[.int .i64 x1.Rule.Columns], [.int .i64 x1.Rule.Faulty], rfl, rfl, rfl⟩⟩⟩⟩⟩⟩) rfl
    exact ⟨_, resOk_one rfl (res_all hs 0 rfl TI26 h9_2 rfl), [.int .i64 x1.Kind, .int .i64 x1.Server, .int .i64 x1.Weight, .int .i64 x10, .int .i64 x1.Rule.Kind, .int .i64 x1.Rule.Columns, .int .i64 x1.Rule.Faulty], rfl, (hs.mask []).pick [0]⟩
  refine W.seqK fun K13 hK13 => ?_
  refine W.region ?_
  refine WL.fieldAddr (m := 0) rfl FA26_0 rfl ?_
  refine WL.load1 (v := .int .i64 x1.Kind) hs 1 rfl TI3 rfl rfl ?_
  refine WL.nil ?_
  refine hK13 _ _ ?_
  refine W.block ?_
  refine W.seqK fun K14 hK14 => ?_
  have Jk16 : ∀  (ρ : Env) (w : World), ρ 1 = .pointer (some ⟨g6, 0, none⟩) → ρ 2 = .pointer (some ⟨g7, 0, none⟩) → St ok (bz w0) w [] [blk g7 26 [.int .i64 0, .int .i64 0, .int .i64 0, .int .i64 0, .int .i64 0, .int .i64 0, .int .i64 0], blk g6 26 [.int .i64 x1.Kind, .int .i64 x1.Server, .int .i64 x1.Weight, .int .i64 x1.Version, .int .i64 x1.Rule.Kind, .int .i64 x1.Rule.Columns, .int .i64 x1.Rule.Faulty]] → command_versioned.j3 x1 = some r → K14 ρ w := by
    intro  ρ w h15_1 h15_2 hs hf
    refine hK14 _ _ ?_
    unfold command_versioned.j3 at hf
    refine W.seqK fun K17 hK17 => ?_
    have Jk20 : ∀ (x19 : Int) (ρ : Env) (w : World), ρ 1 = .pointer (some ⟨g6, 0, none⟩) → ρ 2 = .pointer (some ⟨g7, 0, none⟩) → St ok (bz w0) w [] [blk g7 26 [.int .i64 0, .int .i64 0, .int .i64 0, .int .i64 0, .int .i64 0, .int .i64 0, .int .i64 0], blk g6 26 [.int .i64 x1.Kind, .int .i64 x1.Server, .int .i64 x1.Weight, .int .i64 x19, .int .i64 x1.Rule.Kind, .int .i64 x1.Rule.Columns, .int .i64 x1.Rule.Faulty]] → command_versioned.j2 x1 x19 = some r → K17 ρ w := by
      intro x19 ρ w h18_1 h18_2 hs hf
      refine hK17 _ _ ?_
      unfold command_versioned.j2 at hf
      refine W.exit ?_
      exact Jk11 x19 _ _ h18_1 h18_2 ((hs.mask [true, true]).pick []) hf
    refine W.seqK fun K21 hK21 => ?_
    refine W.region ?_
    refine WL.fieldAddr (m := 3) h15_1 FA26_3 rfl ?_
    refine WL.load1 (v := .int .i64 x1.Version) hs 1 rfl TI3 rfl rfl ?_
    refine WL.bin (v := .bool (x1.Version == 0)) rfl rfl (ib_eql _ _ _) ?_
    refine WL.nil ?_
    refine hK21 _ _ ?_
    rcases iteE hf with ⟨hc22, hf⟩ | ⟨hc22, hf⟩
    {
    refine W.cond_true (bool_tr rfl hc22) ?_
    refine W.region ?_
    refine WL.fieldAddr (m := 3) h15_1 FA26_3 rfl ?_
    refine WL.store (vs := [.int .i64 1]) (cs' := [.int .i64 x1.Kind, .int .i64 x1.Server, .int .i64 x1.Weight, .int .i64 1, .int .i64 x1.Rule.Kind, .int .i64 x1.Rule.Columns, .int .i64 x1.Rule.Faulty]) hs 1 rfl TI3 rfl rfl rfl rfl (ones_of rfl) (Nat.le_of_ble_eq_true rfl) rfl (fun w hs => ?_)
    refine WL.nil ?_
    exact Jk20 1 _ _ h15_1 h15_2 ((hs.mask [true, true]).pick []) hf }
    {
    refine W.cond_false (bool_tr rfl hc22) ?_
    refine W.skip ?_
    exact Jk20 x1.Version _ _ h15_1 h15_2 ((hs.mask [true, true]).pick []) hf }
  refine W.block ?_
  refine W.block ?_
  refine W.seqK fun K23 hK23 => ?_
  refine W.seqK fun K24 hK24 => ?_
  refine W.seqK fun K25 hK25 => ?_
  refine W.region ?_
  refine WL.bin (v := .bool (x1.Kind == 3)) rfl rfl (ib_eql _ _ _) ?_
  refine WL.assign (v := .bool (x1.Kind == 3)) rfl ?_
  refine WL.nil ?_
  refine hK25 _ _ ?_
  rcases iteE hf with ⟨hc26, hf⟩ | ⟨hc26, hf⟩
  {
  refine W.cond_true (bool_tr rfl hc26) ?_
  refine W.exit ?_
  exact Jk16  _ _ rfl rfl ((hs.mask [true, true]).pick []) hf }
  {
  refine W.cond_false (bool_tr rfl hc26) ?_
  refine W.skip ?_
  refine hK24 _ _ ?_
  refine W.seqK fun K27 hK27 => ?_
  refine W.region ?_
  refine WL.bin (v := .bool (x1.Kind == 4)) rfl rfl (ib_eql _ _ _) ?_
  refine WL.assign (v := .bool (x1.Kind == 4)) rfl ?_
  refine WL.nil ?_
  refine hK27 _ _ ?_
  rcases iteE hf with ⟨hc28, hf⟩ | ⟨hc28, hf⟩
  {
  refine W.cond_true (bool_tr rfl hc28) ?_
  refine W.exit ?_
  exact Jk16  _ _ rfl rfl ((hs.mask [true, true]).pick []) hf }
  {
  refine W.cond_false (bool_tr rfl hc28) ?_
  refine W.skip ?_
  refine hK23 _ _ ?_
  refine W.exit ?_
  exact Jk11 x1.Version _ _ rfl rfl ((hs.mask [true, true]).pick []) hf } }
/-! elasticstore/proposal.within: function 49 -/
theorem proposal_within.calls {ok : Nat → Prop} {w0 : World} {x1 : Int} {x2 : Int} {x3 : Int} {x4 : Bool}  {r : Bool} (hf : proposal_within x1 x2 x3 x4 = some r)  :
    Calls Tryd.prog 49 #[.int .i64 x1, .int .i64 x2, .int .i64 x3, .bool x4] w0 fun e w' => ∃ v, e = .returned v ∧ ∃ y : Unit, v = .bool r ∧ St ok (bz w0) w' [] [] := by
  unfold proposal_within at hf
  refine calls_of_W (fn := Tryd.f49) (N := 21) Tryd.func49 rfl Tryd.ntmps49 rfl ?_
  have hs : St ok (bz w0) w0 [] [] := St.init All.nil
  refine W.seqK fun K5 hK5 => ?_
  refine W.region ?_
  refine WL.assign (v := .bool false) rfl ?_
  refine WL.nil ?_
  refine hK5 _ _ ?_
  refine W.seqK fun K6 hK6 => ?_
  refine W.seqK fun K7 hK7 => ?_
  refine W.region ?_
  refine WL.move (v := .bool x4) rfl ?_
  refine WL.not rfl ?_
  refine WL.nil ?_
  refine hK7 _ _ ?_
  rcases iteE hf with ⟨hc8, hf⟩ | ⟨hc8, hf⟩
  {
  refine W.cond_true (bool_tr rfl hc8) ?_
  refine W.seqK fun K9 hK9 => ?_
  refine W.region ?_
  refine WL.move (v := .int .i64 x1) rfl ?_
  refine WL.bin (v := .bool (x1 == 0)) rfl rfl (ib_eql _ _ _) ?_
  refine WL.assign (v := .bool (x1 == 0)) rfl ?_
  refine WL.nil ?_
  refine hK9 _ _ ?_
  refine W.ret ?_
  have hr := Option.some.inj hf; subst hr
  exact ⟨_, resOk_one rfl rfl, (), rfl, (hs.mask []).pick []⟩ }
  {
  refine W.cond_false (bool_tr rfl hc8) ?_
  refine W.skip ?_
  refine hK6 _ _ ?_
  refine W.seqK fun K10 hK10 => ?_
  have Jk13 : ∀ (x12 : Bool) (ρ : Env) (w : World), ρ 8 = .bool x12 → St ok (bz w0) w [] [] → proposal_within.j1 x12 = some r → K10 ρ w := by
    intro x12 ρ w h11_8 hs hf
    refine hK10 _ _ ?_
    unfold proposal_within.j1 at hf
    refine W.ret ?_
    have hr := Option.some.inj hf; subst hr
    exact ⟨_, resOk_one rfl h11_8, (), rfl, (hs.mask []).pick []⟩
  refine W.region ?_
  refine WL.move (v := .int .i64 x1) rfl ?_
  refine WL.move (v := .int .i64 x2) rfl ?_
  refine WL.bin (v := .bool (decide (x2 ≤ x1))) rfl rfl (ib_geq _ _ _) ?_
  refine WL.move (v := .bool (decide (x2 ≤ x1))) rfl ?_
  rcases iteE hf with ⟨hc14, hf⟩ | ⟨hc14, hf⟩
  {
  refine WL.move (v := .int .i64 x1) rfl ?_ (hg := (wanted_of rfl rfl (bool_tr rfl hc14)).trans rfl)
  refine WL.move (v := .int .i64 x3) rfl ?_ (hg := (wanted_of rfl rfl (bool_tr rfl hc14)).trans rfl)
  refine WL.bin (v := .bool (decide (x1 ≤ x3))) rfl rfl (ib_leq _ _ _) ?_ (hg := (wanted_of rfl rfl (bool_tr rfl hc14)).trans rfl)
  refine WL.pickT (v := .bool (decide (x1 ≤ x3))) (bool_tr rfl hc14) rfl ?_
  refine WL.assign (v := .bool (decide (x1 ≤ x3))) rfl ?_
  refine WL.nil ?_
  exact Jk13 (decide (x1 ≤ x3)) _ _ rfl ((hs.mask []).pick []) hf }
  {
  refine WL.pass ((wanted_of rfl rfl (bool_tr rfl hc14)).trans rfl) rfl ?_
  refine WL.pass ((wanted_of rfl rfl (bool_tr rfl hc14)).trans rfl) rfl ?_
  refine WL.pass ((wanted_of rfl rfl (bool_tr rfl hc14)).trans rfl) rfl ?_
  refine WL.pickF (v := .bool false) (bool_tr rfl hc14) rfl ?_
  refine WL.assign (v := .bool false) rfl ?_
  refine WL.nil ?_
  exact Jk13 false _ _ rfl ((hs.mask []).pick []) hf } }
/-! elasticstore/quorum.ValidateRule: function 50 -/
theorem quorum_ValidateRule.calls {ok : Nat → Prop} {w0 : World} {x1 : api_Rule} {v2 : Value} {r : Int} (hf : quorum_ValidateRule x1 = some r) (i0 : (vl t_api_Rule x1 v2).holds ok w0) :
    Calls Tryd.prog 50 #[v2] w0 fun e w' => ∃ v, e = .returned v ∧ ∃ y : Unit, v = .int .i64 r ∧ St ok (bz w0) w' [] [] := by
  unfold quorum_ValidateRule at hf
  refine calls_of_W (fn := Tryd.f50) (N := 42) Tryd.func50 rfl Tryd.ntmps50 rfl ?_
  have hs : St ok (bz w0) w0 [vl t_api_Rule x1 v2] [] := St.init (All.cons i0 All.nil)
  clear i0
  obtain ⟨cs3, hl4, rfl⟩ := hs.aggv (n := 3) 0 rfl rfl rfl
  refine W.seqK fun K5 hK5 => ?_
  refine W.region ?_
  refine WL.box (vs := cs3) hs rfl rfl (fun g6 w hs => ?_)
  refine WL.assign (v := .int .i64 0) rfl ?_
  refine WL.nil ?_
  refine hK5 _ _ ?_
  refine W.seqK fun K7 hK7 => ?_
  have Jk11 : ∀ (x9 : Bool) (x10 : Bool) (ρ : Env) (w : World), ρ 1 = .pointer (some ⟨g6, 0, none⟩) → ρ 3 = .bool x9 → ρ 4 = .bool x10 → St ok (bz w0) w [vl t_api_Rule x1 (.agg cs3.toArray)] [blk g6 24 cs3] → quorum_ValidateRule.j4 x1 x9 x10 = some r → K7 ρ w := by
    intro x9 x10 ρ w h8_1 h8_3 h8_4 hs hf
    refine hK7 _ _ ?_
    unfold quorum_ValidateRule.j4 at hf
    refine W.seqK fun K12 hK12 => ?_
    have Jk16 : ∀ (x14 : Bool) (x15 : Bool) (ρ : Env) (w : World), ρ 3 = .bool x14 → ρ 4 = .bool x15 → St ok (bz w0) w [] [] → quorum_ValidateRule.j2 x14 x15 = some r → K12 ρ w := by
      intro x14 x15 ρ w h13_3 h13_4 hs hf
      refine hK12 _ _ ?_
      unfold quorum_ValidateRule.j2 at hf
      refine W.seqK fun K17 hK17 => ?_
      refine W.seqK fun K18 hK18 => ?_
      have Jk21 : ∀ (x20 : Bool) (ρ : Env) (w : World), ρ 41 = .bool x20 → St ok (bz w0) w [] [] → quorum_ValidateRule.j1 x20 = some r → K18 ρ w := by
        intro x20 ρ w h19_41 hs hf
        refine hK18 _ _ ?_
        unfold quorum_ValidateRule.j1 at hf
        rcases iteE hf with ⟨hc22, hf⟩ | ⟨hc22, hf⟩
        {
        refine W.cond_true (bool_tr h19_41 hc22) ?_
        refine W.seqK fun K23 hK23 => ?_
        refine W.region ?_
        refine WL.assign (v := .int .i64 9) rfl ?_
        refine WL.nil ?_
        refine hK23 _ _ ?_
        refine W.ret ?_
        have hr := Option.some.inj hf; subst hr
        exact ⟨_, resOk_one rfl rfl, (), rfl, (hs.mask []).pick []⟩ }
        {
        refine W.cond_false (bool_tr h19_41 hc22) ?_
        refine W.skip ?_
        refine hK17 _ _ ?_
        refine W.seqK fun K24 hK24 => ?_
        refine W.region ?_
        refine WL.assign (v := .int .i64 0) rfl ?_
        refine WL.nil ?_
        refine hK24 _ _ ?_
        refine W.ret ?_
        have hr := Option.some.inj hf; subst hr
        exact ⟨_, resOk_one rfl rfl, (), rfl, (hs.mask []).pick []⟩ }
      refine W.region ?_
      refine WL.move (v := .bool x14) h13_3 ?_
      refine WL.not rfl ?_
      refine WL.move (v := .bool (!x14)) rfl ?_
      rcases iteE hf with ⟨hc25, hf⟩ | ⟨hc25, hf⟩
      {
      refine WL.pass ((wanted_of rfl rfl (bool_tr rfl hc25)).trans rfl) rfl ?_
      refine WL.pass ((wanted_of rfl rfl (bool_tr rfl hc25)).trans rfl) rfl ?_
      refine WL.pickT (v := .bool true) (bool_tr rfl hc25) rfl ?_
      refine WL.nil ?_
      exact Jk21 true _ _ rfl ((hs.mask []).pick []) hf }
      {
      refine WL.move (v := .bool x15) h13_4 ?_ (hg := (wanted_of rfl rfl (bool_tr rfl hc25)).trans rfl)
      refine WL.not rfl ?_ (hg := (wanted_of rfl rfl (bool_tr rfl hc25)).trans rfl)
      refine WL.pickF (v := .bool (!x15)) (bool_tr rfl hc25) rfl ?_
      refine WL.nil ?_
      exact Jk21 (!x15) _ _ rfl ((hs.mask []).pick []) hf }
    refine W.seqK fun K26 hK26 => ?_
    refine W.region ?_
    refine WL.fieldAddr (m := 0) h8_1 FA24_0 rfl ?_
    refine WL.loadF (z := x1.Kind) F_api_Rule_Kind hs 0 rfl 0 rfl rfl TI3 (.inr rfl) rfl rfl (fun v27 hs => ?_)
    obtain rfl := hs.int 0 rfl
    refine WL.nil ?_
    refine hK26 _ _ ?_
    refine W.block ?_
    refine W.seqK fun K28 hK28 => ?_
    have Jk31 : ∀ (x30 : Bool) (ρ : Env) (w : World), ρ 1 = .pointer (some ⟨g6, 0, none⟩) → ρ 3 = .bool x9 → ρ 4 = .bool x10 → ρ 12 = .int .i64 x1.Kind → ρ 13 = .bool x30 → St ok (bz w0) w [vl t_api_Rule x1 (.agg cs3.toArray)] [blk g6 24 cs3] → quorum_ValidateRule.j3 x1 x9 x10 x30 = some r → K28 ρ w := by
      intro x30 ρ w h29_1 h29_3 h29_4 h29_12 h29_13 hs hf
      refine hK28 _ _ ?_
      unfold quorum_ValidateRule.j3 at hf
      rcases iteE hf with ⟨hc32, hf⟩ | ⟨hc32, hf⟩
      {
      refine W.cond_true (bool_tr h29_13 hc32) ?_
      refine W.skip ?_
      exact Jk16 x9 x10 _ _ h29_3 h29_4 ((hs.mask []).pick []) hf }
      {
      refine W.cond_false (bool_tr h29_13 hc32) ?_
      refine W.seqK fun K33 hK33 => ?_
      refine W.region ?_
      refine WL.bin (v := .bool (x1.Kind == 3)) h29_12 rfl (ib_eql _ _ _) ?_
      refine WL.assign (v := .bool (x1.Kind == 3)) rfl ?_
      refine WL.nil ?_
      refine hK33 _ _ ?_
      rcases iteE hf with ⟨hc34, hf⟩ | ⟨hc34, hf⟩
      {
      refine W.cond_true (bool_tr rfl hc34) ?_
      refine W.region ?_
      refine WL.fieldAddr (m := 1) h29_1 FA24_1 rfl ?_
      refine WL.loadF (z := x1.Columns) F_api_Rule_Columns hs 0 rfl 0 rfl rfl TI3 (.inr rfl) rfl rfl (fun v35 hs => ?_)
      obtain rfl := hs.int 0 rfl
      refine WL.bin (v := .bool (decide (1 ≤ x1.Columns))) rfl rfl (ib_geq _ _ _) ?_
      refine WL.move (v := .bool (decide (1 ≤ x1.Columns))) rfl ?_
      rcases iteE hf with ⟨hc36, hf⟩ | ⟨hc36, hf⟩
      {
      refine WL.fieldAddr (m := 1) h29_1 FA24_1 rfl ?_ (hg := (wanted_of rfl rfl (bool_tr rfl hc36)).trans rfl)
      refine WL.loadF (z := x1.Columns) F_api_Rule_Columns hs 0 rfl 1 rfl rfl TI3 (.inr rfl) rfl rfl (fun v37 hs => ?_) (hg := (wanted_of rfl rfl (bool_tr rfl hc36)).trans rfl)
      obtain rfl := hs.int 0 rfl
      refine WL.bin (v := .bool (decide (x1.Columns ≤ 12))) rfl rfl (ib_leq _ _ _) ?_ (hg := (wanted_of rfl rfl (bool_tr rfl hc36)).trans rfl)
      refine WL.pickT (v := .bool (decide (x1.Columns ≤ 12))) (bool_tr rfl hc36) rfl ?_
      refine WL.assign (v := .bool (decide (x1.Columns ≤ 12))) rfl ?_
      refine WL.nil ?_
      exact Jk16 (decide (x1.Columns ≤ 12)) x10 _ _ rfl h29_4 ((hs.mask []).pick []) hf }
      {
      refine WL.pass ((wanted_of rfl rfl (bool_tr rfl hc36)).trans rfl) rfl ?_
      refine WL.pass ((wanted_of rfl rfl (bool_tr rfl hc36)).trans rfl) rfl ?_
      refine WL.pass ((wanted_of rfl rfl (bool_tr rfl hc36)).trans rfl) rfl ?_
      refine WL.pickF (v := .bool false) (bool_tr rfl hc36) rfl ?_
      refine WL.assign (v := .bool false) rfl ?_
      refine WL.nil ?_
      exact Jk16 false x10 _ _ rfl h29_4 ((hs.mask []).pick []) hf } }
      {
      refine W.cond_false (bool_tr rfl hc34) ?_
      refine W.seqK fun K38 hK38 => ?_
      refine W.region ?_
      refine WL.bin (v := .bool (x1.Kind == 4)) h29_12 rfl (ib_eql _ _ _) ?_
      refine WL.assign (v := .bool (x1.Kind == 4)) rfl ?_
      refine WL.nil ?_
      refine hK38 _ _ ?_
      rcases iteE hf with ⟨hc39, hf⟩ | ⟨hc39, hf⟩
      {
      refine W.cond_true (bool_tr rfl hc39) ?_
      refine W.region ?_
      refine WL.fieldAddr (m := 2) h29_1 FA24_2 rfl ?_
      refine WL.loadF (z := x1.Faulty) F_api_Rule_Faulty hs 0 rfl 0 rfl rfl TI3 (.inr rfl) rfl rfl (fun v40 hs => ?_)
      obtain rfl := hs.int 0 rfl
      refine WL.bin (v := .bool (decide (0 ≤ x1.Faulty))) rfl rfl (ib_geq _ _ _) ?_
      refine WL.move (v := .bool (decide (0 ≤ x1.Faulty))) rfl ?_
      rcases iteE hf with ⟨hc41, hf⟩ | ⟨hc41, hf⟩
      {
      refine WL.fieldAddr (m := 2) h29_1 FA24_2 rfl ?_ (hg := (wanted_of rfl rfl (bool_tr rfl hc41)).trans rfl)
      refine WL.loadF (z := x1.Faulty) F_api_Rule_Faulty hs 0 rfl 1 rfl rfl TI3 (.inr rfl) rfl rfl (fun v42 hs => ?_) (hg := (wanted_of rfl rfl (bool_tr rfl hc41)).trans rfl)
      obtain rfl := hs.int 0 rfl
      refine WL.bin (v := .bool (decide (x1.Faulty ≤ 12))) rfl rfl (ib_leq _ _ _) ?_ (hg := (wanted_of rfl rfl (bool_tr rfl hc41)).trans rfl)
      refine WL.pickT (v := .bool (decide (x1.Faulty ≤ 12))) (bool_tr rfl hc41) rfl ?_
      refine WL.assign (v := .bool (decide (x1.Faulty ≤ 12))) rfl ?_
      refine WL.nil ?_
      exact Jk16 x9 (decide (x1.Faulty ≤ 12)) _ _ h29_3 rfl ((hs.mask []).pick []) hf }
      {
      refine WL.pass ((wanted_of rfl rfl (bool_tr rfl hc41)).trans rfl) rfl ?_
      refine WL.pass ((wanted_of rfl rfl (bool_tr rfl hc41)).trans rfl) rfl ?_
      refine WL.pass ((wanted_of rfl rfl (bool_tr rfl hc41)).trans rfl) rfl ?_
      refine WL.pickF (v := .bool false) (bool_tr rfl hc41) rfl ?_
      refine WL.assign (v := .bool false) rfl ?_
      refine WL.nil ?_
      exact Jk16 x9 false _ _ h29_3 rfl ((hs.mask []).pick []) hf } }
      {
      refine W.cond_false (bool_tr rfl hc39) ?_
      refine W.seqK fun K43 hK43 => ?_
      refine W.region ?_
      refine WL.assign (v := .int .i64 10) rfl ?_
      refine WL.nil ?_
      refine hK43 _ _ ?_
      refine W.ret ?_
      have hr := Option.some.inj hf; subst hr
      exact ⟨_, resOk_one rfl rfl, (), rfl, (hs.mask []).pick []⟩ } } }
    refine W.seqK fun K44 hK44 => ?_
    refine W.region ?_
    refine WL.bin (v := .bool (x1.Kind == 1)) rfl rfl (ib_eql _ _ _) ?_
    refine WL.assign (v := .bool (x1.Kind == 1)) rfl ?_
    refine WL.nil ?_
    refine hK44 _ _ ?_
    rcases iteE hf with ⟨hc45, hf⟩ | ⟨hc45, hf⟩
    {
    refine W.cond_true (bool_tr rfl hc45) ?_
    refine W.skip ?_
    exact Jk31 true _ _ h8_1 h8_3 h8_4 rfl (bool_tr rfl hc45) ((hs.mask [true]).pick [1]) hf }
    {
    refine W.cond_false (bool_tr rfl hc45) ?_
    refine W.region ?_
    refine WL.bin (v := .bool (x1.Kind == 2)) rfl rfl (ib_eql _ _ _) ?_
    refine WL.assign (v := .bool (x1.Kind == 2)) rfl ?_
    refine WL.nil ?_
    exact Jk31 (x1.Kind == 2) _ _ h8_1 h8_3 h8_4 rfl rfl ((hs.mask [true]).pick [1]) hf }
  refine W.any (by kernel_rfl) 8 0 [true, true, true, true, true, true, true, true] rfl rfl (poAt [pv (.pointer (some ⟨g6, 1, none⟩)), pv (.int .i64 x1.Columns), pv (.bool (x1.Columns == 0)), pv (.pointer (some ⟨g6, 2, none⟩)), pv (.int .i64 x1.Faulty), pv (.bool (x1.Faulty == 0)), pv (.bool (x1.Columns == 0)), pv (.bool (x1.Faulty == 0))]) (Λ := [blk g6 24 cs3]) hs (by kernel_rfl) (by kernel_rfl) (by kernel_rfl) ⟨⟨⟨⟨⟨⟨⟨⟨trivial, ?_⟩, ?_⟩, ?_⟩, ?_⟩, ?_⟩, ?_⟩, ?_⟩, ?_⟩ ?_
  {
  intro ρ w Γx Λx hs hu hp
  refine WL.fieldAddr (m := 1) (hu 1 rfl) FA24_1 rfl ?_
  exact WL.nil ⟨rfl, _, rfl, rfl, hs.cutG 0 0⟩ }
  {
  intro ρ w Γx Λx hs hu hp
  have e48 : ρ 5 = .pointer (some ⟨g6, 1, none⟩) := (hp 0 rfl).1
  refine WL.loadF (z := x1.Columns) F_api_Rule_Columns hs (Λx.length + 0) (getApp rfl) (Γx.length + 0) (getApp rfl) rfl TI3 (.inr rfl) e48 rfl (fun v46 hs => ?_)
  obtain rfl := hs.int 0 rfl
  exact WL.nil ⟨rfl, _, rfl, rfl, hs.cutG 0 1⟩ }
  {
  intro ρ w Γx Λx hs hu hp
  have e49 : ρ 6 = .int .i64 x1.Columns := (hp 1 rfl).1
  refine WL.bin (v := .bool (x1.Columns == 0)) e49 rfl (ib_eql _ _ _) ?_
  exact WL.nil ⟨rfl, _, rfl, rfl, hs.cutG 0 0⟩ }
  {
  intro ρ w Γx Λx hs hu hp
  refine WL.fieldAddr (m := 2) (hu 1 rfl) FA24_2 rfl ?_
  exact WL.nil ⟨rfl, _, rfl, rfl, hs.cutG 0 0⟩ }
  {
  intro ρ w Γx Λx hs hu hp
  have e50 : ρ 8 = .pointer (some ⟨g6, 2, none⟩) := (hp 3 rfl).1
  refine WL.loadF (z := x1.Faulty) F_api_Rule_Faulty hs (Λx.length + 0) (getApp rfl) (Γx.length + 0) (getApp rfl) rfl TI3 (.inr rfl) e50 rfl (fun v47 hs => ?_)
  obtain rfl := hs.int 0 rfl
  exact WL.nil ⟨rfl, _, rfl, rfl, hs.cutG 0 1⟩ }
  {
  intro ρ w Γx Λx hs hu hp
  have e51 : ρ 9 = .int .i64 x1.Faulty := (hp 4 rfl).1
  refine WL.bin (v := .bool (x1.Faulty == 0)) e51 rfl (ib_eql _ _ _) ?_
  exact WL.nil ⟨rfl, _, rfl, rfl, hs.cutG 0 0⟩ }
  {
  intro ρ w Γx Λx hs hu hp
  have e52 : ρ 7 = .bool (x1.Columns == 0) := (hp 2 rfl).1
  refine WL.assign (v := .bool (x1.Columns == 0)) e52 ?_
  exact WL.nil ⟨rfl, _, rfl, rfl, hs.cutG 0 0⟩ }
  {
  intro ρ w Γx Λx hs hu hp
  have e53 : ρ 10 = .bool (x1.Faulty == 0) := (hp 5 rfl).1
  refine WL.assign (v := .bool (x1.Faulty == 0)) e53 ?_
  exact WL.nil ⟨rfl, _, rfl, rfl, hs.cutG 0 0⟩ }
  {
  intro ρ w hs hu54 hp
  obtain ⟨⟨⟨⟨⟨⟨⟨⟨_, hp0_⟩, hp1_⟩, hp2_⟩, hp3_⟩, hp4_⟩, hp5_⟩, hp6_⟩, hp7_⟩ := hp
  have hs : St ok (bz w0) w [vl t_api_Rule x1 (.agg cs3.toArray)] [blk g6 24 cs3] := hs
  have e55 : ρ 4 = .bool (x1.Faulty == 0) := hp7_
  have e56 : ρ 3 = .bool (x1.Columns == 0) := hp6_
  have e57 : ρ 10 = .bool (x1.Faulty == 0) := hp5_
  have e58 : ρ 9 = .int .i64 x1.Faulty := hp4_
  have e59 : ρ 8 = .pointer (some ⟨g6, 2, none⟩) := hp3_
  have e60 : ρ 7 = .bool (x1.Columns == 0) := hp2_
  have e61 : ρ 6 = .int .i64 x1.Columns := hp1_
  have e62 : ρ 5 = .pointer (some ⟨g6, 1, none⟩) := hp0_
  refine WA.done (by kernel_rfl) ?_
  exact Jk11 (x1.Columns == 0) (x1.Faulty == 0) _ _ (hu54 1 rfl) e56 e55 ((hs.mask [true]).pick [0]) hf }
end Go.Proofs.YthfoljpjhegkmaaDoor
