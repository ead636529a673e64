import Derived.Test.YthfoljpjhegkmaaDoorFh
import Derived.Test.YthfoljpjhegkmaaDoorFp6
set_option linter.unusedVariables false
set_option linter.unusedSimpArgs false
namespace Go.Proofs.YthfoljpjhegkmaaDoor
open Go Go.RowKit Go.Proofs.YthfoljpjhegkmaaDoorL
set_option maxRecDepth 100000
set_option maxHeartbeats 4000000
/-! elasticstore/elasticstoreref10.form: function 27 -/
theorem esref10_form.calls {ok : Nat → Prop} {w0 : World} {x1 : List UInt8}  {r : api_Change × Bool} (hf : esref10_form x1 = some r)  :
    Calls Tryd.prog 27 #[bstr x1] w0 fun e w' => ∃ v, e = .returned v ∧ ∃ y : List Value, v = .tuple #[.agg y.toArray, .bool r.2] ∧ St ok (bz w0) w' [vl t_api_Change r.1 (.agg y.toArray)] [] := by
  unfold esref10_form at hf
  refine calls_of_W (fn := Tryd.f27) (N := 115) Tryd.func27 rfl Tryd.ntmps27 rfl ?_
  have hs : St ok (bz w0) w0 [] [] := St.init All.nil
  refine W.seqK fun K2 hK2 => ?_
  refine W.region ?_
  refine WL.alloc hs ZV26 (fun g3 w hs => ?_)
  refine WL.assign (v := .bool false) rfl ?_
  refine WL.nil ?_
  refine hK2 _ _ ?_
  refine W.seqK fun K4 hK4 => ?_
  refine W.region ?_
  refine WL.move (v := bstr x1) rfl ?_
  obtain ⟨x5, hxx5, hf⟩ := bindE hf
  refine WL.call (vs := [bstr x1]) hs FN51 ⟨rfl, trivial⟩ (fun ok hA => esref10_words.calls (x1 := x1) hxx5) ?_
  rintro ⟨a6, n7, c8⟩ w hs
  refine WL.assign (v := .slice a6 n7 c8) rfl ?_
  refine WL.nil ?_
  refine hK4 _ _ ?_
  refine W.seqK fun K9 hK9 => ?_
  refine W.seqK fun K10 hK10 => ?_
  refine W.region ?_
  refine WL.move (v := .slice a6 n7 c8) rfl ?_
  obtain ⟨x11, hxx11, hf⟩ := bindE hf
  refine WL.indexAddrO hs 0 rfl UN44 TI9 rfl rfl hxx11 (fun ad12 hatad12 => ?_)
  refine WL.loadO hs 0 rfl TI9 (.inr rfl) hatad12 hxx11 rfl (fun v13 hs => ?_)
  obtain rfl := hs.str 0 rfl
  refine WL.binS (v := .bool (x11 == ([114, 117, 108, 101] : List UInt8))) rfl rfl (sb_eql _ _) ?_
  refine WL.nil ?_
  refine hK10 _ _ ?_
  rcases iteE hf with ⟨hc14, hf⟩ | ⟨hc14, hf⟩
  · refine W.cond_true (bool_tr rfl hc14) ?_
    refine W.seqK fun K15 hK15 => ?_
    refine W.region ?_
    refine WL.move (v := .slice a6 n7 c8) rfl ?_
    obtain rfl := hs.ownLen 0 rfl
    have hs := hs.freezeOwn 0 rfl
    obtain ⟨x16, hxx16, hf⟩ := bindE hf
    refine WL.slice_l hs 0 rfl UN44 TI9 rfl rfl hxx16 (fun a17 c18 hs => ?_)
    obtain ⟨⟨x19, x20⟩, hxx19, hf⟩ := bindE hf
    refine WL.call (vs := [.slice a17 x16.length c18]) hs FN52 ⟨rfl, trivial⟩ (fun ok hA => esref10_parseRule.calls (x1 := x16) hxx19 (hA.get 0 rfl)) ?_
    rintro cs21 w hs
    have hl22 := hs.agglen (n := 3) 0 rfl rfl rfl
    refine WL.move (v := .tuple #[.agg cs21.toArray, .bool x20]) rfl ?_
    refine WL.extract (v := .agg cs21.toArray) rfl rfl ?_
    refine WL.extract (v := .bool x20) rfl rfl ?_
    refine WL.alloc hs ZV24 (fun g23 w hs => ?_)
    refine WL.storeAll (vs := cs21) hs 0 rfl TI24 rfl rfl rfl hl22 (hs.ones 0 rfl rfl) rfl (fun w hs => ?_)
    refine WL.assign (v := .bool x20) rfl ?_
    refine WL.nil ?_
    refine hK15 _ _ ?_
    refine W.seqK fun K24 hK24 => ?_
    refine W.region ?_
    refine WL.loadAll hs 0 rfl TI24 rfl hl22 ?_
    refine WL.build (vs := [(0, .int .i64 4), (4, .agg cs21.toArray)]) (cs := ([.int .i64 4, .int .i64 0, .int .i64 0, .int .i64 0] : List Value) ++ cs21) ⟨⟨rfl, rfl⟩, ⟨⟨rfl, rfl⟩, trivial⟩⟩ (bld PL26 (by simp [fillL, Value.cells, hl22])) ?_
    refine WL.move (v := .bool x20) rfl ?_
    refine WL.storeAll (vs := ([.int .i64 4, .int .i64 0, .int .i64 0, .int .i64 0] : List Value) ++ cs21) hs 1 rfl TI26 rfl rfl rfl (by simp [hl22]) (ones_app (ones_of (l := [.int .i64 4, .int .i64 0, .int .i64 0, .int .i64 0]) rfl) (hs.ones 0 rfl rfl)) rfl (fun w hs => ?_)
    refine WL.assign (v := .bool x20) rfl ?_
    refine WL.nil ?_
    refine hK24 _ _ ?_
    refine W.ret ?_
    have hr := Option.some.inj hf; subst hr
    have hs := hs.add (it := vl t_api_Change (⟨4, 0, 0, 0, x19⟩ : api_Change) (.agg (([.int .i64 4, .int .i64 0, .int .i64 0, .int .i64 0] : List Value) ++ cs21).toArray)) fun ok hA => V_agg (show t_api_Change.R ok _ _ _ from ⟨[.int .i64 4], (([.int .i64 0, .int .i64 0, .int .i64 0] : List Value) ++ cs21), by simp, rfl, ⟨[.int .i64 0], (([.int .i64 0, .int .i64 0] : List Value) ++ cs21), by simp, rfl, ⟨[.int .i64 0], (([.int .i64 0] : List Value) ++ cs21), by simp, rfl, ⟨[.int .i64 0], cs21, by simp, rfl, (R_agg (hA.get 0 rfl) rfl)⟩⟩⟩⟩) rfl
    exact ⟨_, resOk_two rfl (res_all hs 1 rfl TI26 rfl (by simp [hl22])) rfl, ([.int .i64 4, .int .i64 0, .int .i64 0, .int .i64 0] : List Value) ++ cs21, rfl, (hs.mask []).pick [0]⟩
  · refine W.cond_false (bool_tr rfl hc14) ?_
    refine W.skip ?_
    refine hK9 _ _ ?_
    refine W.seqK fun K25 hK25 => ?_
    refine W.seqK fun K26 hK26 => ?_
    have Jk29 : ∀ (x28 : Bool) (ρ : Env) (w : World), ρ 2 = .pointer (some ⟨g3, 0, none⟩) → ρ 4 = .slice a6 n7 c8 → ρ 32 = .bool x28 → St ok (bz w0) w [] [own tStr 9 (.slice a6 n7 c8) x5, blk g3 26 [.int .i64 0, .int .i64 0, .int .i64 0, .int .i64 0, .int .i64 0, .int .i64 0, .int .i64 0]] → esref10_form.j5 x5 x28 = some r → K26 ρ w := by
      intro x28 ρ w h27_2 h27_4 h27_32 hs hf
      refine hK26 _ _ ?_
      unfold esref10_form.j5 at hf
      rcases iteE hf with ⟨hc30, hf⟩ | ⟨hc30, hf⟩
      · refine W.cond_true (bool_tr h27_32 hc30) ?_
        refine W.seqK fun K31 hK31 => ?_
        refine W.region ?_
        refine WL.build (vs := []) (cs := [.int .i64 0, .int .i64 0, .int .i64 0, .int .i64 0, .int .i64 0, .int .i64 0, .int .i64 0]) trivial (bld PL26 rfl) ?_
        refine WL.storeAll (vs := [.int .i64 0, .int .i64 0, .int .i64 0, .int .i64 0, .int .i64 0, .int .i64 0, .int .i64 0]) hs 1 rfl TI26 h27_2 rfl rfl rfl (ones_of rfl) rfl (fun w hs => ?_)
        refine WL.assign (v := .bool false) rfl ?_
        refine WL.nil ?_
        refine hK31 _ _ ?_
        refine W.ret ?_
        have hr := Option.some.inj hf; subst hr
        have hs := hs.add (it := vl t_api_Change (⟨0, 0, 0, 0, (⟨0, 0, 0⟩ : api_Rule)⟩ : api_Change) (.agg [.int .i64 0, .int .i64 0, .int .i64 0, .int .i64 0, .int .i64 0, .int .i64 0, .int .i64 0].toArray)) fun ok hA => V_agg (show t_api_Change.R ok _ _ _ from ⟨[.int .i64 0], [.int .i64 0, .int .i64 0, .int .i64 0, .int .i64 0, .int .i64 0, .int .i64 0], rfl, rfl, ⟨[.int .i64 0], [.int .i64 0, .int .i64 0, .int .i64 0, .int .i64 0, .int .i64 0], rfl, rfl, ⟨[.int .i64 0], [.int .i64 0, .int .i64 0, .int .i64 0, .int .i64 0], rfl, rfl, ⟨[.int .i64 0], [.int .i64 0, .int .i64 0, .int .i64 0], rfl, rfl, ⟨[.int .i64 0], [.int .i64 0, .int .i64 0], rfl, rfl, ⟨[.int .i64 0], [.int .i64 0], rfl, rfl, rfl⟩⟩⟩⟩⟩⟩) rfl
        exact ⟨_, resOk_two rfl (res_all hs 1 rfl TI26 h27_2 rfl) rfl, [.int .i64 0, .int .i64 0, .int .i64 0, .int .i64 0, .int .i64 0, .int .i64 0, .int .i64 0], rfl, (hs.mask []).pick [0]⟩
      · refine W.cond_false (bool_tr h27_32 hc30) ?_
        refine W.skip ?_
        refine hK25 _ _ ?_
        refine W.seqK fun K32 hK32 => ?_
        refine W.region ?_
        refine WL.move (v := .slice a6 n7 c8) h27_4 ?_
        obtain ⟨x33, hxx33, hf⟩ := bindE hf
        refine WL.indexAddrO hs 0 rfl UN44 TI9 rfl rfl hxx33 (fun ad34 hatad34 => ?_)
        refine WL.loadO hs 0 rfl TI9 (.inr rfl) hatad34 hxx33 rfl (fun v35 hs => ?_)
        obtain rfl := hs.str 0 rfl
        obtain ⟨x36, hxx36, hf⟩ := bindE hf
        refine WL.call (vs := [bstr x33]) hs FN53 ⟨rfl, trivial⟩ (fun ok hA => esref10_number.calls (x1 := x33) hxx36) ?_
        rintro _ w hs
        refine WL.assign (v := .int .i64 x36) rfl ?_
        refine WL.nil ?_
        refine hK32 _ _ ?_
        refine W.seqK fun K37 hK37 => ?_
        refine W.block ?_
        refine W.seqK fun K38 hK38 => ?_
        have Jk41 : ∀ (x40 : Bool) (ρ : Env) (w : World), ρ 2 = .pointer (some ⟨g3, 0, none⟩) → ρ 4 = .slice a6 n7 c8 → ρ 7 = .int .i64 x36 → ρ 38 = .bool x40 → St ok (bz w0) w [] [own tStr 9 (.slice a6 n7 c8) x5, blk g3 26 [.int .i64 0, .int .i64 0, .int .i64 0, .int .i64 0, .int .i64 0, .int .i64 0, .int .i64 0]] → esref10_form.j4 x5 x36 x40 = some r → K38 ρ w := by
          intro x40 ρ w h39_2 h39_4 h39_7 h39_38 hs hf
          refine hK38 _ _ ?_
          unfold esref10_form.j4 at hf
          rcases iteE hf with ⟨hc42, hf⟩ | ⟨hc42, hf⟩
          · refine W.cond_true (bool_tr h39_38 hc42) ?_
            refine W.seqK fun K43 hK43 => ?_
            refine W.region ?_
            refine WL.move (v := .int .i64 x36) h39_7 ?_
            refine WL.build (vs := [(0, .int .i64 1), (1, .int .i64 x36), (2, .int .i64 1)]) (cs := [.int .i64 1, .int .i64 x36, .int .i64 1, .int .i64 0, .int .i64 0, .int .i64 0, .int .i64 0]) ⟨⟨rfl, rfl⟩, ⟨⟨rfl, rfl⟩, ⟨⟨rfl, rfl⟩, trivial⟩⟩⟩ (bld PL26 rfl) ?_
            refine WL.storeAll (vs := [.int .i64 1, .int .i64 x36, .int .i64 1, .int .i64 0, .int .i64 0, .int .i64 0, .int .i64 0]) hs 1 rfl TI26 h39_2 rfl rfl rfl (ones_of rfl) rfl (fun w hs => ?_)
            refine WL.assign (v := .bool true) rfl ?_
            refine WL.nil ?_
            refine hK43 _ _ ?_
            refine W.ret ?_
            have hr := Option.some.inj hf; subst hr
            have hs := hs.add (it := vl t_api_Change (⟨1, x36, 1, 0, (⟨0, 0, 0⟩ : api_Rule)⟩ : api_Change) (.agg [.int .i64 1, .int .i64 x36, .int .i64 1, .int .i64 0, .int .i64 0, .int .i64 0, .int .i64 0].toArray)) fun ok hA => V_agg (show t_api_Change.R ok _ _ _ from ⟨[.int .i64 1], [.int .i64 x36, .int .i64 1, .int .i64 0, .int .i64 0, .int .i64 0, .int .i64 0], rfl, rfl, ⟨[.int .i64 x36], [.int .i64 1, .int .i64 0, .int .i64 0, .int .i64 0, .int .i64 0], rfl, rfl, ⟨[.int .i64 1], [.int .i64 0, .int .i64 0, .int .i64 0, .int .i64 0], rfl, rfl, ⟨[.int .i64 0], [.int .i64 0, .int .i64 0, .int .i64 0], rfl, rfl, ⟨[.int .i64 0], [.int .i64 0, .int .i64 0], rfl, rfl, ⟨[.int .i64 0], [.int .i64 0], rfl, rfl, rfl⟩⟩⟩⟩⟩⟩) rfl
            exact ⟨_, resOk_two rfl (res_all hs 1 rfl TI26 h39_2 rfl) rfl, [.int .i64 1, .int .i64 x36, .int .i64 1, .int .i64 0, .int .i64 0, .int .i64 0, .int .i64 0], rfl, (hs.mask []).pick [0]⟩
          · refine W.cond_false (bool_tr h39_38 hc42) ?_
            refine W.seqK fun K44 hK44 => ?_
            have Jk47 : ∀ (x46 : Bool) (ρ : Env) (w : World), ρ 2 = .pointer (some ⟨g3, 0, none⟩) → ρ 4 = .slice a6 n7 c8 → ρ 7 = .int .i64 x36 → ρ 50 = .bool x46 → St ok (bz w0) w [] [own tStr 9 (.slice a6 n7 c8) x5, blk g3 26 [.int .i64 0, .int .i64 0, .int .i64 0, .int .i64 0, .int .i64 0, .int .i64 0, .int .i64 0]] → esref10_form.j3 x5 x36 x46 = some r → K44 ρ w := by
              intro x46 ρ w h45_2 h45_4 h45_7 h45_50 hs hf
              refine hK44 _ _ ?_
              unfold esref10_form.j3 at hf
              rcases iteE hf with ⟨hc48, hf⟩ | ⟨hc48, hf⟩
              · refine W.cond_true (bool_tr h45_50 hc48) ?_
                refine W.seqK fun K49 hK49 => ?_
                refine W.region ?_
                refine WL.move (v := .int .i64 x36) h45_7 ?_
                refine WL.move (v := .slice a6 n7 c8) h45_4 ?_
                obtain ⟨x50, hxx50, hf⟩ := bindE hf
                refine WL.indexAddrO hs 0 rfl UN44 TI9 rfl rfl hxx50 (fun ad51 hatad51 => ?_)
                refine WL.loadO hs 0 rfl TI9 (.inr rfl) hatad51 hxx50 rfl (fun v52 hs => ?_)
                obtain rfl := hs.str 0 rfl
                obtain ⟨x53, hxx53, hf⟩ := bindE hf
                refine WL.call (vs := [bstr x50]) hs FN53 ⟨rfl, trivial⟩ (fun ok hA => esref10_number.calls (x1 := x50) hxx53) ?_
                rintro _ w hs
                refine WL.build (vs := [(0, .int .i64 1), (1, .int .i64 x36), (2, .int .i64 x53)]) (cs := [.int .i64 1, .int .i64 x36, .int .i64 x53, .int .i64 0, .int .i64 0, .int .i64 0, .int .i64 0]) ⟨⟨rfl, rfl⟩, ⟨⟨rfl, rfl⟩, ⟨⟨rfl, rfl⟩, trivial⟩⟩⟩ (bld PL26 rfl) ?_
                refine WL.storeAll (vs := [.int .i64 1, .int .i64 x36, .int .i64 x53, .int .i64 0, .int .i64 0, .int .i64 0, .int .i64 0]) hs 1 rfl TI26 h45_2 rfl rfl rfl (ones_of rfl) rfl (fun w hs => ?_)
                refine WL.assign (v := .bool true) rfl ?_
                refine WL.nil ?_
                refine hK49 _ _ ?_
                refine W.ret ?_
                have hr := Option.some.inj hf; subst hr
                have hs := hs.add (it := vl t_api_Change (⟨1, x36, x53, 0, (⟨0, 0, 0⟩ : api_Rule)⟩ : api_Change) (.agg [.int .i64 1, .int .i64 x36, .int .i64 x53, .int .i64 0, .int .i64 0, .int .i64 0, .int .i64 0].toArray)) fun ok hA => V_agg (show t_api_Change.R ok _ _ _ from ⟨[.int .i64 1], [.int .i64 x36, .int .i64 x53, .int .i64 0, .int .i64 0, .int .i64 0, .int .i64 0], rfl, rfl, ⟨[.int .i64 x36], [.int .i64 x53, .int .i64 0, .int .i64 0, .int .i64 0, .int .i64 0], rfl, rfl, ⟨[.int .i64 x53], [.int .i64 0, .int .i64 0, .int .i64 0, .int .i64 0], rfl, rfl, ⟨[.int .i64 0], [.int .i64 0, .int .i64 0, .int .i64 0], rfl, rfl, ⟨[.int .i64 0], [.int .i64 0, .int .i64 0], rfl, rfl, ⟨[.int .i64 0], [.int .i64 0], rfl, rfl, rfl⟩⟩⟩⟩⟩⟩) rfl
                exact ⟨_, resOk_two rfl (res_all hs 1 rfl TI26 h45_2 rfl) rfl, [.int .i64 1, .int .i64 x36, .int .i64 x53, .int .i64 0, .int .i64 0, .int .i64 0, .int .i64 0], rfl, (hs.mask []).pick [0]⟩
              · refine W.cond_false (bool_tr h45_50 hc48) ?_
                refine W.seqK fun K54 hK54 => ?_
                have Jk57 : ∀ (x56 : Bool) (ρ : Env) (w : World), ρ 2 = .pointer (some ⟨g3, 0, none⟩) → ρ 4 = .slice a6 n7 c8 → ρ 7 = .int .i64 x36 → ρ 79 = .bool x56 → St ok (bz w0) w [] [own tStr 9 (.slice a6 n7 c8) x5, blk g3 26 [.int .i64 0, .int .i64 0, .int .i64 0, .int .i64 0, .int .i64 0, .int .i64 0, .int .i64 0]] → esref10_form.j2 x5 x36 x56 = some r → K54 ρ w := by
                  intro x56 ρ w h55_2 h55_4 h55_7 h55_79 hs hf
                  refine hK54 _ _ ?_
                  unfold esref10_form.j2 at hf
                  rcases iteE hf with ⟨hc58, hf⟩ | ⟨hc58, hf⟩
                  · refine W.cond_true (bool_tr h55_79 hc58) ?_
                    refine W.seqK fun K59 hK59 => ?_
                    refine W.region ?_
                    refine WL.move (v := .int .i64 x36) h55_7 ?_
                    refine WL.build (vs := [(0, .int .i64 2), (1, .int .i64 x36)]) (cs := [.int .i64 2, .int .i64 x36, .int .i64 0, .int .i64 0, .int .i64 0, .int .i64 0, .int .i64 0]) ⟨⟨rfl, rfl⟩, ⟨⟨rfl, rfl⟩, trivial⟩⟩ (bld PL26 rfl) ?_
                    refine WL.storeAll (vs := [.int .i64 2, .int .i64 x36, .int .i64 0, .int .i64 0, .int .i64 0, .int .i64 0, .int .i64 0]) hs 1 rfl TI26 h55_2 rfl rfl rfl (ones_of rfl) rfl (fun w hs => ?_)
                    refine WL.assign (v := .bool true) rfl ?_
                    refine WL.nil ?_
                    refine hK59 _ _ ?_
                    refine W.ret ?_
                    have hr := Option.some.inj hf; subst hr
                    have hs := hs.add (it := vl t_api_Change (⟨2, x36, 0, 0, (⟨0, 0, 0⟩ : api_Rule)⟩ : api_Change) (.agg [.int .i64 2, .int .i64 x36, .int .i64 0, .int .i64 0, .int .i64 0, .int .i64 0, .int .i64 0].toArray)) fun ok hA => V_agg (show t_api_Change.R ok _ _ _ from ⟨[.int .i64 2], [.int .i64 x36, .int .i64 0, .int .i64 0, .int .i64 0, .int .i64 0, .int .i64 0], rfl, rfl, ⟨[.int .i64 x36], [.int .i64 0, .int .i64 0, .int .i64 0, .int .i64 0, .int .i64 0], rfl, rfl, ⟨[.int .i64 0], [.int .i64 0, .int .i64 0, .int .i64 0, .int .i64 0], rfl, rfl, ⟨[.int .i64 0], [.int .i64 0, .int .i64 0, .int .i64 0], rfl, rfl, ⟨[.int .i64 0], [.int .i64 0, .int .i64 0], rfl, rfl, ⟨[.int .i64 0], [.int .i64 0], rfl, rfl, rfl⟩⟩⟩⟩⟩⟩) rfl
                    exact ⟨_, resOk_two rfl (res_all hs 1 rfl TI26 h55_2 rfl) rfl, [.int .i64 2, .int .i64 x36, .int .i64 0, .int .i64 0, .int .i64 0, .int .i64 0, .int .i64 0], rfl, (hs.mask []).pick [0]⟩
                  · refine W.cond_false (bool_tr h55_79 hc58) ?_
                    refine W.seqK fun K60 hK60 => ?_
                    have Jk63 : ∀ (x62 : Bool) (ρ : Env) (w : World), ρ 2 = .pointer (some ⟨g3, 0, none⟩) → ρ 4 = .slice a6 n7 c8 → ρ 7 = .int .i64 x36 → ρ 91 = .bool x62 → St ok (bz w0) w [] [own tStr 9 (.slice a6 n7 c8) x5, blk g3 26 [.int .i64 0, .int .i64 0, .int .i64 0, .int .i64 0, .int .i64 0, .int .i64 0, .int .i64 0]] → esref10_form.j1 x5 x36 x62 = some r → K60 ρ w := by
                      intro x62 ρ w h61_2 h61_4 h61_7 h61_91 hs hf
                      refine hK60 _ _ ?_
                      unfold esref10_form.j1 at hf
                      rcases iteE hf with ⟨hc64, hf⟩ | ⟨hc64, hf⟩
                      · refine W.cond_true (bool_tr h61_91 hc64) ?_
                        refine W.seqK fun K65 hK65 => ?_
                        refine W.region ?_
                        refine WL.move (v := .int .i64 x36) h61_7 ?_
                        refine WL.move (v := .slice a6 n7 c8) h61_4 ?_
                        obtain ⟨x66, hxx66, hf⟩ := bindE hf
                        refine WL.indexAddrO hs 0 rfl UN44 TI9 rfl rfl hxx66 (fun ad67 hatad67 => ?_)
                        refine WL.loadO hs 0 rfl TI9 (.inr rfl) hatad67 hxx66 rfl (fun v68 hs => ?_)
                        obtain rfl := hs.str 0 rfl
                        obtain ⟨x69, hxx69, hf⟩ := bindE hf
                        refine WL.call (vs := [bstr x66]) hs FN53 ⟨rfl, trivial⟩ (fun ok hA => esref10_number.calls (x1 := x66) hxx69) ?_
                        rintro _ w hs
                        refine WL.build (vs := [(0, .int .i64 3), (1, .int .i64 x36), (2, .int .i64 x69)]) (cs := [.int .i64 3, .int .i64 x36, .int .i64 x69, .int .i64 0, .int .i64 0, .int .i64 0, .int .i64 0]) ⟨⟨rfl, rfl⟩, ⟨⟨rfl, rfl⟩, ⟨⟨rfl, rfl⟩, trivial⟩⟩⟩ (bld PL26 rfl) ?_
                        refine WL.storeAll (vs := [.int .i64 3, .int .i64 x36, .int .i64 x69, .int .i64 0, .int .i64 0, .int .i64 0, .int .i64 0]) hs 1 rfl TI26 h61_2 rfl rfl rfl (ones_of rfl) rfl (fun w hs => ?_)
                        refine WL.assign (v := .bool true) rfl ?_
                        refine WL.nil ?_
                        refine hK65 _ _ ?_
                        refine W.ret ?_
                        have hr := Option.some.inj hf; subst hr
                        have hs := hs.add (it := vl t_api_Change (⟨3, x36, x69, 0, (⟨0, 0, 0⟩ : api_Rule)⟩ : api_Change) (.agg [.int .i64 3, .int .i64 x36, .int .i64 x69, .int .i64 0, .int .i64 0, .int .i64 0, .int .i64 0].toArray)) fun ok hA => V_agg (show t_api_Change.R ok _ _ _ from ⟨[.int .i64 3], [.int .i64 x36, .int .i64 x69, .int .i64 0, .int .i64 0, .int .i64 0, .int .i64 0], rfl, rfl, ⟨[.int .i64 x36], [.int .i64 x69, .int .i64 0, .int .i64 0, .int .i64 0, .int .i64 0], rfl, rfl, ⟨[.int .i64 x69], [.int .i64 0, .int .i64 0, .int .i64 0, .int .i64 0], rfl, rfl, ⟨[.int .i64 0], [.int .i64 0, .int .i64 0, .int .i64 0], rfl, rfl, ⟨[.int .i64 0], [.int .i64 0, .int .i64 0], rfl, rfl, ⟨[.int .i64 0], [.int .i64 0], rfl, rfl, rfl⟩⟩⟩⟩⟩⟩) rfl
                        exact ⟨_, resOk_two rfl (res_all hs 1 rfl TI26 h61_2 rfl) rfl, [.int .i64 3, .int .i64 x36, .int .i64 x69, .int .i64 0, .int .i64 0, .int .i64 0, .int .i64 0], rfl, (hs.mask []).pick [0]⟩
                      · refine W.cond_false (bool_tr h61_91 hc64) ?_
                        refine W.skip ?_
                        refine hK37 _ _ ?_
                        refine W.seqK fun K70 hK70 => ?_
                        refine W.region ?_
                        refine WL.build (vs := []) (cs := [.int .i64 0, .int .i64 0, .int .i64 0, .int .i64 0, .int .i64 0, .int .i64 0, .int .i64 0]) trivial (bld PL26 rfl) ?_
                        refine WL.storeAll (vs := [.int .i64 0, .int .i64 0, .int .i64 0, .int .i64 0, .int .i64 0, .int .i64 0, .int .i64 0]) hs 1 rfl TI26 h61_2 rfl rfl rfl (ones_of rfl) rfl (fun w hs => ?_)
                        refine WL.assign (v := .bool false) rfl ?_
                        refine WL.nil ?_
                        refine hK70 _ _ ?_
                        refine W.ret ?_
                        have hr := Option.some.inj hf; subst hr
                        have hs := hs.add (it := vl t_api_Change (⟨0, 0, 0, 0, (⟨0, 0, 0⟩ : api_Rule)⟩ : api_Change) (.agg [.int .i64 0, .int .i64 0, .int .i64 0, .int .i64 0, .int .i64 0, .int .i64 0, .int .i64 0].toArray)) fun ok hA => V_agg (show t_api_Change.R ok _ _ _ from ⟨[.int .i64 0], [.int .i64 0, .int .i64 0, .int .i64 0, .int .i64 0, .int .i64 0, .int .i64 0], rfl, rfl, ⟨[.int .i64 0], [.int .i64 0, .int .i64 0, .int .i64 0, .int .i64 0, .int .i64 0], rfl, rfl, ⟨[.int .i64 0], [.int .i64 0, .int .i64 0, .int .i64 0, .int .i64 0], rfl, rfl, ⟨[.int .i64 0], [.int .i64 0, .int .i64 0, .int .i64 0], rfl, rfl, ⟨[.int .i64 0], [.int .i64 0, .int .i64 0], rfl, rfl, ⟨[.int .i64 0], [.int .i64 0], rfl, rfl, rfl⟩⟩⟩⟩⟩⟩) rfl
                        exact ⟨_, resOk_two rfl (res_all hs 1 rfl TI26 h61_2 rfl) rfl, [.int .i64 0, .int .i64 0, .int .i64 0, .int .i64 0, .int .i64 0, .int .i64 0, .int .i64 0], rfl, (hs.mask []).pick [0]⟩
                    refine W.region ?_
                    refine WL.move (v := .slice a6 n7 c8) h55_4 ?_
                    obtain ⟨x71, hxx71, hf⟩ := bindE hf
                    refine WL.indexAddrO hs 0 rfl UN44 TI9 rfl rfl hxx71 (fun ad72 hatad72 => ?_)
                    refine WL.loadO hs 0 rfl TI9 (.inr rfl) hatad72 hxx71 rfl (fun v73 hs => ?_)
                    obtain rfl := hs.str 0 rfl
                    refine WL.binS (v := .bool (x71 == ([119, 101, 105, 103, 104, 116] : List UInt8))) rfl rfl (sb_eql _ _) ?_
                    refine WL.move (v := .bool (x71 == ([119, 101, 105, 103, 104, 116] : List UInt8))) rfl ?_
                    rcases iteE hf with ⟨hc74, hf⟩ | ⟨hc74, hf⟩
                    · refine WL.move (v := .slice a6 n7 c8) h55_4 ?_ (hg := (wanted_of rfl rfl (bool_tr rfl hc74)).trans rfl)
                      refine WL.len (v := .slice a6 n7 c8) rfl (len_own hs 0 rfl UN44) ?_ (hg := (wanted_of rfl rfl (bool_tr rfl hc74)).trans rfl)
                      refine WL.bin (v := .bool ((x5.length : Int) == 3)) rfl rfl (ib_eql _ _ _) ?_ (hg := (wanted_of rfl rfl (bool_tr rfl hc74)).trans rfl)
                      refine WL.pickT (v := .bool ((x5.length : Int) == 3)) (bool_tr rfl hc74) rfl ?_
                      refine WL.move (v := .bool ((x5.length : Int) == 3)) rfl ?_
                      rcases iteE hf with ⟨hc75, hf⟩ | ⟨hc75, hf⟩
                      · refine WL.move (v := .slice a6 n7 c8) h55_4 ?_ (hg := (wanted_of rfl rfl (bool_tr rfl hc75)).trans rfl)
                        obtain ⟨x76, hxx76, hf⟩ := bindE hf
                        refine WL.indexAddrO hs 0 rfl UN44 TI9 rfl rfl hxx76 (fun ad77 hatad77 => ?_) (hg := (wanted_of rfl rfl (bool_tr rfl hc75)).trans rfl)
                        refine WL.loadO hs 0 rfl TI9 (.inr rfl) hatad77 hxx76 rfl (fun v78 hs => ?_) (hg := (wanted_of rfl rfl (bool_tr rfl hc75)).trans rfl)
                        obtain rfl := hs.str 0 rfl
                        obtain ⟨x79, hxx79, hf⟩ := bindE hf
                        refine WL.call (vs := [bstr x76]) hs FN53 ⟨rfl, trivial⟩ (fun ok hA => esref10_number.calls (x1 := x76) hxx79) ?_ (hg := (wanted_of rfl rfl (bool_tr rfl hc75)).trans rfl)
                        rintro _ w hs
                        refine WL.bin (v := .bool (decide (0 ≤ x79))) rfl rfl (ib_geq _ _ _) ?_ (hg := (wanted_of rfl rfl (bool_tr rfl hc75)).trans rfl)
                        refine WL.pickT (v := .bool (decide (0 ≤ x79))) (bool_tr rfl hc75) rfl ?_
                        refine WL.assign (v := .bool (decide (0 ≤ x79))) rfl ?_
                        refine WL.nil ?_
                        exact Jk63 (decide (0 ≤ x79)) _ _ h55_2 h55_4 h55_7 rfl ((hs.mask [true, true]).pick []) hf
                      · refine WL.pass ((wanted_of rfl rfl (bool_tr rfl hc75)).trans rfl) rfl ?_
                        refine WL.pass ((wanted_of rfl rfl (bool_tr rfl hc75)).trans rfl) rfl ?_
                        refine WL.pass ((wanted_of rfl rfl (bool_tr rfl hc75)).trans rfl) rfl ?_
                        refine WL.pass ((wanted_of rfl rfl (bool_tr rfl hc75)).trans rfl) rfl ?_
                        refine WL.pass ((wanted_of rfl rfl (bool_tr rfl hc75)).trans rfl) rfl ?_
                        refine WL.pickF (v := .bool false) (bool_tr rfl hc75) rfl ?_
                        refine WL.assign (v := .bool false) rfl ?_
                        refine WL.nil ?_
                        exact Jk63 false _ _ h55_2 h55_4 h55_7 rfl ((hs.mask [true, true]).pick []) hf
                    · refine WL.pass ((wanted_of rfl rfl (bool_tr rfl hc74)).trans rfl) rfl ?_
                      refine WL.pass ((wanted_of rfl rfl (bool_tr rfl hc74)).trans rfl) rfl ?_
                      refine WL.pass ((wanted_of rfl rfl (bool_tr rfl hc74)).trans rfl) rfl ?_
                      refine WL.pickF (v := .bool false) (bool_tr rfl hc74) rfl ?_
                      refine WL.move (v := .bool false) rfl ?_
                      refine WL.pass ((wanted_of rfl rfl rfl).trans rfl) rfl ?_
                      refine WL.pass ((wanted_of rfl rfl rfl).trans rfl) rfl ?_
                      refine WL.pass ((wanted_of rfl rfl rfl).trans rfl) rfl ?_
                      refine WL.pass ((wanted_of rfl rfl rfl).trans rfl) rfl ?_
                      refine WL.pass ((wanted_of rfl rfl rfl).trans rfl) rfl ?_
                      refine WL.pickF (v := .bool false) rfl rfl ?_
                      refine WL.assign (v := .bool false) rfl ?_
                      refine WL.nil ?_
                      exact Jk63 false _ _ h55_2 h55_4 h55_7 rfl ((hs.mask [true, true]).pick []) hf
                refine W.region ?_
                refine WL.move (v := .slice a6 n7 c8) h45_4 ?_
                obtain ⟨x80, hxx80, hf⟩ := bindE hf
                refine WL.indexAddrO hs 0 rfl UN44 TI9 rfl rfl hxx80 (fun ad81 hatad81 => ?_)
                refine WL.loadO hs 0 rfl TI9 (.inr rfl) hatad81 hxx80 rfl (fun v82 hs => ?_)
                obtain rfl := hs.str 0 rfl
                refine WL.binS (v := .bool (x80 == ([114, 101, 109, 111, 118, 101] : List UInt8))) rfl rfl (sb_eql _ _) ?_
                refine WL.move (v := .bool (x80 == ([114, 101, 109, 111, 118, 101] : List UInt8))) rfl ?_
                rcases iteE hf with ⟨hc83, hf⟩ | ⟨hc83, hf⟩
                · refine WL.move (v := .slice a6 n7 c8) h45_4 ?_ (hg := (wanted_of rfl rfl (bool_tr rfl hc83)).trans rfl)
                  refine WL.len (v := .slice a6 n7 c8) rfl (len_own hs 0 rfl UN44) ?_ (hg := (wanted_of rfl rfl (bool_tr rfl hc83)).trans rfl)
                  refine WL.bin (v := .bool ((x5.length : Int) == 2)) rfl rfl (ib_eql _ _ _) ?_ (hg := (wanted_of rfl rfl (bool_tr rfl hc83)).trans rfl)
                  refine WL.pickT (v := .bool ((x5.length : Int) == 2)) (bool_tr rfl hc83) rfl ?_
                  refine WL.assign (v := .bool ((x5.length : Int) == 2)) rfl ?_
                  refine WL.nil ?_
                  exact Jk57 ((x5.length : Int) == 2) _ _ h45_2 h45_4 h45_7 rfl ((hs.mask [true, true]).pick []) hf
                · refine WL.pass ((wanted_of rfl rfl (bool_tr rfl hc83)).trans rfl) rfl ?_
                  refine WL.pass ((wanted_of rfl rfl (bool_tr rfl hc83)).trans rfl) rfl ?_
                  refine WL.pass ((wanted_of rfl rfl (bool_tr rfl hc83)).trans rfl) rfl ?_
                  refine WL.pickF (v := .bool false) (bool_tr rfl hc83) rfl ?_
                  refine WL.assign (v := .bool false) rfl ?_
                  refine WL.nil ?_
                  exact Jk57 false _ _ h45_2 h45_4 h45_7 rfl ((hs.mask [true, true]).pick []) hf
            refine W.region ?_
            refine WL.move (v := .slice a6 n7 c8) h39_4 ?_
            obtain ⟨x84, hxx84, hf⟩ := bindE hf
            refine WL.indexAddrO hs 0 rfl UN44 TI9 rfl rfl hxx84 (fun ad85 hatad85 => ?_)
            refine WL.loadO hs 0 rfl TI9 (.inr rfl) hatad85 hxx84 rfl (fun v86 hs => ?_)
            obtain rfl := hs.str 0 rfl
            refine WL.binS (v := .bool (x84 == ([106, 111, 105, 110] : List UInt8))) rfl rfl (sb_eql _ _) ?_
            refine WL.move (v := .bool (x84 == ([106, 111, 105, 110] : List UInt8))) rfl ?_
            rcases iteE hf with ⟨hc87, hf⟩ | ⟨hc87, hf⟩
            · refine WL.move (v := .slice a6 n7 c8) h39_4 ?_ (hg := (wanted_of rfl rfl (bool_tr rfl hc87)).trans rfl)
              refine WL.len (v := .slice a6 n7 c8) rfl (len_own hs 0 rfl UN44) ?_ (hg := (wanted_of rfl rfl (bool_tr rfl hc87)).trans rfl)
              refine WL.bin (v := .bool ((x5.length : Int) == 4)) rfl rfl (ib_eql _ _ _) ?_ (hg := (wanted_of rfl rfl (bool_tr rfl hc87)).trans rfl)
              refine WL.pickT (v := .bool ((x5.length : Int) == 4)) (bool_tr rfl hc87) rfl ?_
              refine WL.move (v := .bool ((x5.length : Int) == 4)) rfl ?_
              rcases iteE hf with ⟨hc88, hf⟩ | ⟨hc88, hf⟩
              · refine WL.move (v := .slice a6 n7 c8) h39_4 ?_ (hg := (wanted_of rfl rfl (bool_tr rfl hc88)).trans rfl)
                obtain ⟨x89, hxx89, hf⟩ := bindE hf
                refine WL.indexAddrO hs 0 rfl UN44 TI9 rfl rfl hxx89 (fun ad90 hatad90 => ?_) (hg := (wanted_of rfl rfl (bool_tr rfl hc88)).trans rfl)
                refine WL.loadO hs 0 rfl TI9 (.inr rfl) hatad90 hxx89 rfl (fun v91 hs => ?_) (hg := (wanted_of rfl rfl (bool_tr rfl hc88)).trans rfl)
                obtain rfl := hs.str 0 rfl
                refine WL.binS (v := .bool (x89 == ([119, 101, 105, 103, 104, 116] : List UInt8))) rfl rfl (sb_eql _ _) ?_ (hg := (wanted_of rfl rfl (bool_tr rfl hc88)).trans rfl)
                refine WL.pickT (v := .bool (x89 == ([119, 101, 105, 103, 104, 116] : List UInt8))) (bool_tr rfl hc88) rfl ?_
                refine WL.move (v := .bool (x89 == ([119, 101, 105, 103, 104, 116] : List UInt8))) rfl ?_
                rcases iteE hf with ⟨hc92, hf⟩ | ⟨hc92, hf⟩
                · refine WL.move (v := .slice a6 n7 c8) h39_4 ?_ (hg := (wanted_of rfl rfl (bool_tr rfl hc92)).trans rfl)
                  obtain ⟨x93, hxx93, hf⟩ := bindE hf
                  refine WL.indexAddrO hs 0 rfl UN44 TI9 rfl rfl hxx93 (fun ad94 hatad94 => ?_) (hg := (wanted_of rfl rfl (bool_tr rfl hc92)).trans rfl)
                  refine WL.loadO hs 0 rfl TI9 (.inr rfl) hatad94 hxx93 rfl (fun v95 hs => ?_) (hg := (wanted_of rfl rfl (bool_tr rfl hc92)).trans rfl)
                  obtain rfl := hs.str 0 rfl
                  obtain ⟨x96, hxx96, hf⟩ := bindE hf
                  refine WL.call (vs := [bstr x93]) hs FN53 ⟨rfl, trivial⟩ (fun ok hA => esref10_number.calls (x1 := x93) hxx96) ?_ (hg := (wanted_of rfl rfl (bool_tr rfl hc92)).trans rfl)
                  rintro _ w hs
                  refine WL.bin (v := .bool (decide (0 ≤ x96))) rfl rfl (ib_geq _ _ _) ?_ (hg := (wanted_of rfl rfl (bool_tr rfl hc92)).trans rfl)
                  refine WL.pickT (v := .bool (decide (0 ≤ x96))) (bool_tr rfl hc92) rfl ?_
                  refine WL.assign (v := .bool (decide (0 ≤ x96))) rfl ?_
                  refine WL.nil ?_
                  exact Jk47 (decide (0 ≤ x96)) _ _ h39_2 h39_4 h39_7 rfl ((hs.mask [true, true]).pick []) hf
                · refine WL.pass ((wanted_of rfl rfl (bool_tr rfl hc92)).trans rfl) rfl ?_
                  refine WL.pass ((wanted_of rfl rfl (bool_tr rfl hc92)).trans rfl) rfl ?_
                  refine WL.pass ((wanted_of rfl rfl (bool_tr rfl hc92)).trans rfl) rfl ?_
                  refine WL.pass ((wanted_of rfl rfl (bool_tr rfl hc92)).trans rfl) rfl ?_
                  refine WL.pass ((wanted_of rfl rfl (bool_tr rfl hc92)).trans rfl) rfl ?_
                  refine WL.pickF (v := .bool false) (bool_tr rfl hc92) rfl ?_
                  refine WL.assign (v := .bool false) rfl ?_
                  refine WL.nil ?_
                  exact Jk47 false _ _ h39_2 h39_4 h39_7 rfl ((hs.mask [true, true]).pick []) hf
              · refine WL.pass ((wanted_of rfl rfl (bool_tr rfl hc88)).trans rfl) rfl ?_
                refine WL.pass ((wanted_of rfl rfl (bool_tr rfl hc88)).trans rfl) rfl ?_
                refine WL.pass ((wanted_of rfl rfl (bool_tr rfl hc88)).trans rfl) rfl ?_
                refine WL.pass ((wanted_of rfl rfl (bool_tr rfl hc88)).trans rfl) rfl ?_
                refine WL.pickF (v := .bool false) (bool_tr rfl hc88) rfl ?_
                refine WL.move (v := .bool false) rfl ?_
                refine WL.pass ((wanted_of rfl rfl rfl).trans rfl) rfl ?_
                refine WL.pass ((wanted_of rfl rfl rfl).trans rfl) rfl ?_
                refine WL.pass ((wanted_of rfl rfl rfl).trans rfl) rfl ?_
                refine WL.pass ((wanted_of rfl rfl rfl).trans rfl) rfl ?_
                refine WL.pass ((wanted_of rfl rfl rfl).trans rfl) rfl ?_
                refine WL.pickF (v := .bool false) rfl rfl ?_
                refine WL.assign (v := .bool false) rfl ?_
                refine WL.nil ?_
                exact Jk47 false _ _ h39_2 h39_4 h39_7 rfl ((hs.mask [true, true]).pick []) hf
            · refine WL.pass ((wanted_of rfl rfl (bool_tr rfl hc87)).trans rfl) rfl ?_
              refine WL.pass ((wanted_of rfl rfl (bool_tr rfl hc87)).trans rfl) rfl ?_
              refine WL.pass ((wanted_of rfl rfl (bool_tr rfl hc87)).trans rfl) rfl ?_
              refine WL.pickF (v := .bool false) (bool_tr rfl hc87) rfl ?_
              refine WL.move (v := .bool false) rfl ?_
              refine WL.pass ((wanted_of rfl rfl rfl).trans rfl) rfl ?_
              refine WL.pass ((wanted_of rfl rfl rfl).trans rfl) rfl ?_
              refine WL.pass ((wanted_of rfl rfl rfl).trans rfl) rfl ?_
              refine WL.pass ((wanted_of rfl rfl rfl).trans rfl) rfl ?_
              refine WL.pickF (v := .bool false) rfl rfl ?_
              refine WL.move (v := .bool false) rfl ?_
              refine WL.pass ((wanted_of rfl rfl rfl).trans rfl) rfl ?_
              refine WL.pass ((wanted_of rfl rfl rfl).trans rfl) rfl ?_
              refine WL.pass ((wanted_of rfl rfl rfl).trans rfl) rfl ?_
              refine WL.pass ((wanted_of rfl rfl rfl).trans rfl) rfl ?_
              refine WL.pass ((wanted_of rfl rfl rfl).trans rfl) rfl ?_
              refine WL.pickF (v := .bool false) rfl rfl ?_
              refine WL.assign (v := .bool false) rfl ?_
              refine WL.nil ?_
              exact Jk47 false _ _ h39_2 h39_4 h39_7 rfl ((hs.mask [true, true]).pick []) hf
        refine W.region ?_
        refine WL.move (v := .slice a6 n7 c8) h27_4 ?_
        obtain ⟨x97, hxx97, hf⟩ := bindE hf
        refine WL.indexAddrO hs 0 rfl UN44 TI9 rfl rfl hxx97 (fun ad98 hatad98 => ?_)
        refine WL.loadO hs 0 rfl TI9 (.inr rfl) hatad98 hxx97 rfl (fun v99 hs => ?_)
        obtain rfl := hs.str 0 rfl
        refine WL.binS (v := .bool (x97 == ([106, 111, 105, 110] : List UInt8))) rfl rfl (sb_eql _ _) ?_
        refine WL.move (v := .bool (x97 == ([106, 111, 105, 110] : List UInt8))) rfl ?_
        rcases iteE hf with ⟨hc100, hf⟩ | ⟨hc100, hf⟩
        · refine WL.move (v := .slice a6 n7 c8) h27_4 ?_ (hg := (wanted_of rfl rfl (bool_tr rfl hc100)).trans rfl)
          refine WL.len (v := .slice a6 n7 c8) rfl (len_own hs 0 rfl UN44) ?_ (hg := (wanted_of rfl rfl (bool_tr rfl hc100)).trans rfl)
          refine WL.bin (v := .bool ((x5.length : Int) == 2)) rfl rfl (ib_eql _ _ _) ?_ (hg := (wanted_of rfl rfl (bool_tr rfl hc100)).trans rfl)
          refine WL.pickT (v := .bool ((x5.length : Int) == 2)) (bool_tr rfl hc100) rfl ?_
          refine WL.assign (v := .bool ((x5.length : Int) == 2)) rfl ?_
          refine WL.nil ?_
          exact Jk41 ((x5.length : Int) == 2) _ _ h27_2 h27_4 rfl rfl ((hs.mask [true, true]).pick []) hf
        · refine WL.pass ((wanted_of rfl rfl (bool_tr rfl hc100)).trans rfl) rfl ?_
          refine WL.pass ((wanted_of rfl rfl (bool_tr rfl hc100)).trans rfl) rfl ?_
          refine WL.pass ((wanted_of rfl rfl (bool_tr rfl hc100)).trans rfl) rfl ?_
          refine WL.pickF (v := .bool false) (bool_tr rfl hc100) rfl ?_
          refine WL.assign (v := .bool false) rfl ?_
          refine WL.nil ?_
          exact Jk41 false _ _ h27_2 h27_4 rfl rfl ((hs.mask [true, true]).pick []) hf
    refine W.region ?_
    refine WL.move (v := .slice a6 n7 c8) rfl ?_
    refine WL.len (v := .slice a6 n7 c8) rfl (len_own hs 0 rfl UN44) ?_
    refine WL.bin (v := .bool (decide ((x5.length : Int) < 2))) rfl rfl (ib_lss _ _ _) ?_
    refine WL.move (v := .bool (decide ((x5.length : Int) < 2))) rfl ?_
    rcases iteE hf with ⟨hc101, hf⟩ | ⟨hc101, hf⟩
    · refine WL.pass ((wanted_of rfl rfl (bool_tr rfl hc101)).trans rfl) rfl ?_
      refine WL.pass ((wanted_of rfl rfl (bool_tr rfl hc101)).trans rfl) rfl ?_
      refine WL.pass ((wanted_of rfl rfl (bool_tr rfl hc101)).trans rfl) rfl ?_
      refine WL.pass ((wanted_of rfl rfl (bool_tr rfl hc101)).trans rfl) rfl ?_
      refine WL.pass ((wanted_of rfl rfl (bool_tr rfl hc101)).trans rfl) rfl ?_
      refine WL.pickT (v := .bool true) (bool_tr rfl hc101) rfl ?_
      refine WL.nil ?_
      exact Jk29 true _ _ rfl rfl rfl ((hs.mask [true, true]).pick []) hf
    · refine WL.move (v := .slice a6 n7 c8) rfl ?_ (hg := (wanted_of rfl rfl (bool_tr rfl hc101)).trans rfl)
      obtain ⟨x102, hxx102, hf⟩ := bindE hf
      refine WL.indexAddrO hs 0 rfl UN44 TI9 rfl rfl hxx102 (fun ad103 hatad103 => ?_) (hg := (wanted_of rfl rfl (bool_tr rfl hc101)).trans rfl)
      refine WL.loadO hs 0 rfl TI9 (.inr rfl) hatad103 hxx102 rfl (fun v104 hs => ?_) (hg := (wanted_of rfl rfl (bool_tr rfl hc101)).trans rfl)
      obtain rfl := hs.str 0 rfl
      obtain ⟨x105, hxx105, hf⟩ := bindE hf
      refine WL.call (vs := [bstr x102]) hs FN53 ⟨rfl, trivial⟩ (fun ok hA => esref10_number.calls (x1 := x102) hxx105) ?_ (hg := (wanted_of rfl rfl (bool_tr rfl hc101)).trans rfl)
      rintro _ w hs
      refine WL.bin (v := .bool (decide (x105 < 0))) rfl rfl (ib_lss _ _ _) ?_ (hg := (wanted_of rfl rfl (bool_tr rfl hc101)).trans rfl)
      refine WL.pickF (v := .bool (decide (x105 < 0))) (bool_tr rfl hc101) rfl ?_
      refine WL.nil ?_
      exact Jk29 (decide (x105 < 0)) _ _ rfl rfl rfl ((hs.mask [true, true]).pick []) hf
/-! elasticstore/elasticstoreref10.versioned: function 29 -/
theorem esref10_versioned.calls {ok : Nat → Prop} {w0 : World} {x1 : api_Change} {v2 : Value} {r : api_Change} (hf : esref10_versioned x1 = some r) (i0 : (vl t_api_Change x1 v2).holds ok w0) :
    Calls Tryd.prog 29 #[v2] w0 fun e w' => ∃ v, e = .returned v ∧ ∃ y : List Value, v = .agg y.toArray ∧ St ok (bz w0) w' [vl t_api_Change r (.agg y.toArray)] [] := by
  unfold esref10_versioned at hf
  refine calls_of_W (fn := Tryd.f29) (N := 18) Tryd.func29 rfl Tryd.ntmps29 rfl ?_
  have hs : St ok (bz w0) w0 [vl t_api_Change x1 v2] [] := St.init (All.cons i0 All.nil)
  clear i0
  obtain ⟨cs3, hl4, rfl⟩ := hs.aggv (n := 7) 0 rfl rfl rfl
  refine W.seqK fun K5 hK5 => ?_
  refine W.region ?_
  obtain rfl := open_api_Change hs 0 rfl
  refine WL.box (vs := [.int .i64 x1.Kind, .int .i64 x1.Server, .int .i64 x1.Weight, .int .i64 x1.Version, .int .i64 x1.Rule.Kind, .int .i64 x1.Rule.Columns, .int .i64 x1.Rule.Faulty]) hs rfl rfl (fun g6 w hs => ?_)
  refine WL.alloc hs ZV26 (fun g7 w hs => ?_)
  refine WL.nil ?_
  refine hK5 _ _ ?_
  refine W.seqK fun K8 hK8 => ?_
  have Jk11 : ∀ (x10 : Int) (ρ : Env) (w : World), ρ 1 = .pointer (some ⟨g6, 0, none⟩) → ρ 2 = .pointer (some ⟨g7, 0, none⟩) → St ok (bz w0) w [] [blk g7 26 [.int .i64 0, .int .i64 0, .int .i64 0, .int .i64 0, .int .i64 0, .int .i64 0, .int .i64 0], blk g6 26 [.int .i64 x1.Kind, .int .i64 x1.Server, .int .i64 x1.Weight, .int .i64 x10, .int .i64 x1.Rule.Kind, .int .i64 x1.Rule.Columns, .int .i64 x1.Rule.Faulty]] → esref10_versioned.j1 x1 x10 = some r → K8 ρ w := by
    intro x10 ρ w h9_1 h9_2 hs hf
    refine hK8 _ _ ?_
    unfold esref10_versioned.j1 at hf
    refine W.seqK fun K12 hK12 => ?_
    refine W.region ?_
    refine WL.loadN (vs := [.int .i64 x1.Kind, .int .i64 x1.Server, .int .i64 x1.Weight, .int .i64 x10, .int .i64 x1.Rule.Kind, .int .i64 x1.Rule.Columns, .int .i64 x1.Rule.Faulty]) hs 1 rfl TI26 h9_1 rfl rfl ?_
    refine WL.storeAll (vs := [.int .i64 x1.Kind, .int .i64 x1.Server, .int .i64 x1.Weight, .int .i64 x10, .int .i64 x1.Rule.Kind, .int .i64 x1.Rule.Columns, .int .i64 x1.Rule.Faulty]) hs 0 rfl TI26 h9_2 rfl rfl rfl (ones_of rfl) rfl (fun w hs => ?_)
    refine WL.nil ?_
    refine hK12 _ _ ?_
    refine W.ret ?_
    have hr := Option.some.inj hf; subst hr
    have hs := hs.add (it := vl t_api_Change (⟨x1.Kind, x1.Server, x1.Weight, x10, (⟨x1.Rule.Kind, x1.Rule.Columns, x1.Rule.Faulty⟩ : api_Rule)⟩ : api_Change) (.agg [.int .i64 x1.Kind, .int .i64 x1.Server, .int .i64 x1.Weight, .int .i64 x10, .int .i64 x1.Rule.Kind, .int .i64 x1.Rule.Columns, .int .i64 x1.Rule.Faulty].toArray)) fun ok hA => V_agg (show t_api_Change.R ok _ _ _ from ⟨[.int .i64 x1.Kind], [.int .i64 x1.Server, .int .i64 x1.Weight, .int .i64 x10, .int .i64 x1.Rule.Kind, .int .i64 x1.Rule.Columns, .int .i64 x1.Rule.Faulty], rfl, rfl, ⟨[.int .i64 x1.Server], [.int .i64 x1.Weight, .int .i64 x10, .int .i64 x1.Rule.Kind, .int .i64 x1.Rule.Columns, .int .i64 x1.Rule.Faulty], rfl, rfl, ⟨[.int .i64 x1.Weight], [.int .i64 x10, .int .i64 x1.Rule.Kind, .int .i64 x1.Rule.Columns, .int .i64 x1.Rule.Faulty], rfl, rfl, ⟨[.int .i64 x10], [.int .i64 x1.Rule.Kind, .int .i64 x1.Rule.Columns, .int .i64 x1.Rule.Faulty], rfl, rfl, ⟨[.int .i64 x1.Rule.Kind], [.int .i64 x1.Rule.Columns, .int .i64 x1.Rule.Faulty], rfl, rfl, ⟨[.int .i64 x1.Rule.Columns], [.int .i64 x1.Rule.Faulty], rfl, rfl, rfl⟩⟩⟩⟩⟩⟩) rfl
    exact ⟨_, resOk_one rfl (res_all hs 0 rfl TI26 h9_2 rfl), [.int .i64 x1.Kind, .int .i64 x1.Server, .int .i64 x1.Weight, .int .i64 x10, .int .i64 x1.Rule.Kind, .int .i64 x1.Rule.Columns, .int .i64 x1.Rule.Faulty], rfl, (hs.mask []).pick [0]⟩
  refine W.seqK fun K13 hK13 => ?_
  have Jk16 : ∀ (x15 : Bool) (ρ : Env) (w : World), ρ 1 = .pointer (some ⟨g6, 0, none⟩) → ρ 2 = .pointer (some ⟨g7, 0, none⟩) → ρ 15 = .bool x15 → St ok (bz w0) w [] [blk g7 26 [.int .i64 0, .int .i64 0, .int .i64 0, .int .i64 0, .int .i64 0, .int .i64 0, .int .i64 0], blk g6 26 [.int .i64 x1.Kind, .int .i64 x1.Server, .int .i64 x1.Weight, .int .i64 x1.Version, .int .i64 x1.Rule.Kind, .int .i64 x1.Rule.Columns, .int .i64 x1.Rule.Faulty]] → esref10_versioned.j2 x1 x15 = some r → K13 ρ w := by
    intro x15 ρ w h14_1 h14_2 h14_15 hs hf
    refine hK13 _ _ ?_
    unfold esref10_versioned.j2 at hf
    rcases iteE hf with ⟨hc17, hf⟩ | ⟨hc17, hf⟩
    · refine W.cond_true (bool_tr h14_15 hc17) ?_
      refine W.region ?_
      refine WL.fieldAddr (m := 3) h14_1 FA26_3 rfl ?_
      refine WL.store (vs := [.int .i64 1]) (cs' := [.int .i64 x1.Kind, .int .i64 x1.Server, .int .i64 x1.Weight, .int .i64 1, .int .i64 x1.Rule.Kind, .int .i64 x1.Rule.Columns, .int .i64 x1.Rule.Faulty]) hs 1 rfl TI3 rfl rfl rfl rfl (ones_of rfl) (Nat.le_of_ble_eq_true rfl) rfl (fun w hs => ?_)
      refine WL.nil ?_
      exact Jk11 1 _ _ h14_1 h14_2 ((hs.mask [true, true]).pick []) hf
    · refine W.cond_false (bool_tr h14_15 hc17) ?_
      refine W.skip ?_
      exact Jk11 x1.Version _ _ h14_1 h14_2 ((hs.mask [true, true]).pick []) hf
  refine W.region ?_
  refine WL.fieldAddr (m := 0) rfl FA26_0 rfl ?_
  refine WL.load1 (v := .int .i64 x1.Kind) hs 1 rfl TI3 rfl rfl ?_
  refine WL.bin (v := .bool (x1.Kind == 3)) rfl rfl (ib_eql _ _ _) ?_
  refine WL.move (v := .bool (x1.Kind == 3)) rfl ?_
  rcases iteE hf with ⟨hc18, hf⟩ | ⟨hc18, hf⟩
  · refine WL.pass ((wanted_of rfl rfl (bool_tr rfl hc18)).trans rfl) rfl ?_
    refine WL.pass ((wanted_of rfl rfl (bool_tr rfl hc18)).trans rfl) rfl ?_
    refine WL.pass ((wanted_of rfl rfl (bool_tr rfl hc18)).trans rfl) rfl ?_
    refine WL.pickT (v := .bool true) (bool_tr rfl hc18) rfl ?_
    refine WL.move (v := .bool true) rfl ?_
    refine WL.fieldAddr (m := 3) rfl FA26_3 rfl ?_ (hg := (wanted_of rfl rfl rfl).trans rfl)
    refine WL.load1 (v := .int .i64 x1.Version) hs 1 rfl TI3 rfl rfl ?_ (hg := (wanted_of rfl rfl rfl).trans rfl)
    refine WL.bin (v := .bool (x1.Version == 0)) rfl rfl (ib_eql _ _ _) ?_ (hg := (wanted_of rfl rfl rfl).trans rfl)
    refine WL.pickT (v := .bool (x1.Version == 0)) rfl rfl ?_
    refine WL.nil ?_
    exact Jk16 (x1.Version == 0) _ _ rfl rfl rfl ((hs.mask [true, true]).pick []) hf
  · refine WL.fieldAddr (m := 0) rfl FA26_0 rfl ?_ (hg := (wanted_of rfl rfl (bool_tr rfl hc18)).trans rfl)
    refine WL.load1 (v := .int .i64 x1.Kind) hs 1 rfl TI3 rfl rfl ?_ (hg := (wanted_of rfl rfl (bool_tr rfl hc18)).trans rfl)
    refine WL.bin (v := .bool (x1.Kind == 4)) rfl rfl (ib_eql _ _ _) ?_ (hg := (wanted_of rfl rfl (bool_tr rfl hc18)).trans rfl)
    refine WL.pickF (v := .bool (x1.Kind == 4)) (bool_tr rfl hc18) rfl ?_
    refine WL.move (v := .bool (x1.Kind == 4)) rfl ?_
    rcases iteE hf with ⟨hc19, hf⟩ | ⟨hc19, hf⟩
    · refine WL.fieldAddr (m := 3) rfl FA26_3 rfl ?_ (hg := (wanted_of rfl rfl (bool_tr rfl hc19)).trans rfl)
      refine WL.load1 (v := .int .i64 x1.Version) hs 1 rfl TI3 rfl rfl ?_ (hg := (wanted_of rfl rfl (bool_tr rfl hc19)).trans rfl)
      refine WL.bin (v := .bool (x1.Version == 0)) rfl rfl (ib_eql _ _ _) ?_ (hg := (wanted_of rfl rfl (bool_tr rfl hc19)).trans rfl)
      refine WL.pickT (v := .bool (x1.Version == 0)) (bool_tr rfl hc19) rfl ?_
      refine WL.nil ?_
      exact Jk16 (x1.Version == 0) _ _ rfl rfl rfl ((hs.mask [true, true]).pick []) hf
    · refine WL.pass ((wanted_of rfl rfl (bool_tr rfl hc19)).trans rfl) rfl ?_
      refine WL.pass ((wanted_of rfl rfl (bool_tr rfl hc19)).trans rfl) rfl ?_
      refine WL.pass ((wanted_of rfl rfl (bool_tr rfl hc19)).trans rfl) rfl ?_
      refine WL.pickF (v := .bool false) (bool_tr rfl hc19) rfl ?_
      refine WL.nil ?_
      exact Jk16 false _ _ rfl rfl rfl ((hs.mask [true, true]).pick []) hf
/-! elasticstore/elasticstoreref06.Server: function 34 -/
theorem esref06_Server.calls {ok : Nat → Prop} {w0 : World} {x1 : Int}  {r : Bool} (hf : esref06_Server x1 = some r)  :
    Calls Tryd.prog 34 #[.int .i64 x1] w0 fun e w' => ∃ v, e = .returned v ∧ ∃ y : Unit, v = .bool r ∧ St ok (bz w0) w' [] [] := by
  unfold esref06_Server at hf
  refine calls_of_W (fn := Tryd.f34) (N := 9) Tryd.func34 rfl Tryd.ntmps34 rfl ?_
  have hs : St ok (bz w0) w0 [] [] := St.init All.nil
  refine W.seqK fun K2 hK2 => ?_
  refine W.region ?_
  refine WL.assign (v := .bool false) rfl ?_
  refine WL.nil ?_
  refine hK2 _ _ ?_
  refine W.seqK fun K3 hK3 => ?_
  have Jk6 : ∀ (x5 : Bool) (ρ : Env) (w : World), ρ 2 = .bool x5 → St ok (bz w0) w [] [] → esref06_Server.j1 x5 = some r → K3 ρ w := by
    intro x5 ρ w h4_2 hs hf
    refine hK3 _ _ ?_
    unfold esref06_Server.j1 at hf
    refine W.ret ?_
    have hr := Option.some.inj hf; subst hr
    exact ⟨_, resOk_one rfl h4_2, (), rfl, (hs.mask []).pick []⟩
  refine W.region ?_
  refine WL.move (v := .int .i64 x1) rfl ?_
  refine WL.bin (v := .bool (decide (1 ≤ x1))) rfl rfl (ib_geq _ _ _) ?_
  refine WL.move (v := .bool (decide (1 ≤ x1))) rfl ?_
  rcases iteE hf with ⟨hc7, hf⟩ | ⟨hc7, hf⟩
  · refine WL.move (v := .int .i64 x1) rfl ?_ (hg := (wanted_of rfl rfl (bool_tr rfl hc7)).trans rfl)
    refine WL.bin (v := .bool (decide (x1 ≤ 12))) rfl rfl (ib_leq _ _ _) ?_ (hg := (wanted_of rfl rfl (bool_tr rfl hc7)).trans rfl)
    refine WL.pickT (v := .bool (decide (x1 ≤ 12))) (bool_tr rfl hc7) rfl ?_
    refine WL.assign (v := .bool (decide (x1 ≤ 12))) rfl ?_
    refine WL.nil ?_
    exact Jk6 (decide (x1 ≤ 12)) _ _ rfl ((hs.mask []).pick []) hf
  · refine WL.pass ((wanted_of rfl rfl (bool_tr rfl hc7)).trans rfl) rfl ?_
    refine WL.pass ((wanted_of rfl rfl (bool_tr rfl hc7)).trans rfl) rfl ?_
    refine WL.pickF (v := .bool false) (bool_tr rfl hc7) rfl ?_
    refine WL.assign (v := .bool false) rfl ?_
    refine WL.nil ?_
    exact Jk6 false _ _ rfl ((hs.mask []).pick []) hf
end Go.Proofs.YthfoljpjhegkmaaDoor
