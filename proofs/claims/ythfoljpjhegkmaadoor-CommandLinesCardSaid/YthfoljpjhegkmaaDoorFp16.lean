import Derived.Test.YthfoljpjhegkmaaDoorFh
import Derived.Test.YthfoljpjhegkmaaDoorFp5
import Derived.Test.YthfoljpjhegkmaaDoorFp12
import Derived.Test.YthfoljpjhegkmaaDoorFp15
set_option linter.unusedVariables false
set_option linter.unusedSimpArgs false
namespace Go.Proofs.YthfoljpjhegkmaaDoor
open Go Go.RowKit Go.Proofs.YthfoljpjhegkmaaDoorL
set_option maxRecDepth 100000
set_option maxHeartbeats 4000000
/-! elasticstore/elasticstorelaw08.CommandLines: function 7 -/
theorem eslaw08_CommandLines.calls {ok : Nat → Prop} {w0 : World} {x1 : List UInt8} {x2 : List UInt8} {x3 : api_Summary} {v4 : Value} {r : Bool} (hf : eslaw08_CommandLines x1 x2 x3 = some r) (i0 : (vl t_api_Summary x3 v4).holds ok w0) :
    Calls Tryd.prog 7 #[bstr x1, bstr x2, v4] w0 fun e w' => ∃ v, e = .returned v ∧ ∃ y : Unit, v = .bool r ∧ St ok (bz w0) w' [] [] := by
  unfold eslaw08_CommandLines at hf
  refine calls_of_W (fn := Tryd.f7) (N := 84) Tryd.func7 rfl Tryd.ntmps7 rfl ?_
  have hs : St ok (bz w0) w0 [vl t_api_Summary x3 v4] [] := St.init (All.cons i0 All.nil)
  clear i0
  obtain ⟨cs5, hl6, rfl⟩ := hs.aggv (n := 9) 0 rfl rfl rfl
  refine W.seqK fun K7 hK7 => ?_
  refine W.region ?_
  refine WL.box (vs := cs5) hs rfl rfl (fun g8 w hs => ?_)
  refine WL.assign (v := .bool false) rfl ?_
  refine WL.nil ?_
  refine hK7 _ _ ?_
  refine W.seqK fun K9 hK9 => ?_
  refine W.seqK fun K10 hK10 => ?_
  have Jk13 : ∀ (x12 : Bool) (ρ : Env) (w : World), ρ 0 = bstr x1 → ρ 1 = bstr x2 → ρ 5 = .pointer (some ⟨g8, 0, none⟩) → ρ 27 = .bool x12 → St ok (bz w0) w [vl t_api_Summary x3 (.agg cs5.toArray)] [blk g8 36 cs5] → eslaw08_CommandLines.j5 x1 x2 x3 x12 = some r → K10 ρ w := by
    intro x12 ρ w h11_0 h11_1 h11_5 h11_27 hs hf
    refine hK10 _ _ ?_
    unfold eslaw08_CommandLines.j5 at hf
    rcases iteE hf with ⟨hc14, hf⟩ | ⟨hc14, hf⟩
    · refine W.cond_true (bool_tr h11_27 hc14) ?_
      refine W.seqK fun K15 hK15 => ?_
      refine W.region ?_
      obtain ⟨x16, hxx16, hf⟩ := bindE hf
      refine WL.call (vs := []) hs FN8 trivial (fun ok hA => eslaw08_awake.calls hxx16) ?_
      rintro _ w hs
      refine WL.assign (v := .bool x16) rfl ?_
      refine WL.nil ?_
      refine hK15 _ _ ?_
      refine W.ret ?_
      have hr := Option.some.inj hf; subst hr
      exact ⟨_, resOk_one rfl rfl, (), rfl, (hs.mask []).pick []⟩
    · refine W.cond_false (bool_tr h11_27 hc14) ?_
      refine W.skip ?_
      refine hK9 _ _ ?_
      refine W.seqK fun K17 hK17 => ?_
      have Jk19 : ∀  (ρ : Env) (w : World), ρ 0 = bstr x1 → ρ 1 = bstr x2 → ρ 5 = .pointer (some ⟨g8, 0, none⟩) → St ok (bz w0) w [vl t_api_Summary x3 (.agg cs5.toArray)] [blk g8 36 cs5] → eslaw08_CommandLines.j4 x1 x2 x3 = some r → K17 ρ w := by
        intro  ρ w h18_0 h18_1 h18_5 hs hf
        refine hK17 _ _ ?_
        unfold eslaw08_CommandLines.j4 at hf
        refine W.seqK fun K20 hK20 => ?_
        refine W.region ?_
        refine WL.move (v := bstr x1) h18_0 ?_
        obtain ⟨x21, hxx21, hf⟩ := bindE hf
        refine WL.binS (v := bstr x21) rfl rfl (sb_cat hxx21) ?_
        refine WL.move (v := bstr x2) h18_1 ?_
        obtain ⟨x22, hxx22, hf⟩ := bindE hf
        refine WL.binS (v := bstr x22) rfl rfl (sb_cat hxx22) ?_
        refine WL.loadAll hs 0 rfl TI36 h18_5 hl6 ?_
        obtain ⟨⟨x23, x24, x25⟩, hxx23, hf⟩ := bindE hf
        refine WL.call (vs := [bstr x22, .agg cs5.toArray]) hs FN14 ⟨rfl, ⟨rfl, trivial⟩⟩ (fun ok hA => command_Compile.calls (x1 := x22) (x2 := x3) hxx23 (hA.get 0 rfl)) ?_
        rintro ⟨a26, n27, c28⟩ w hs
        refine WL.move (v := .tuple #[.slice a26 n27 c28, .int .i64 x24, .int .i64 x25]) rfl ?_
        refine WL.extract (v := .slice a26 n27 c28) rfl rfl ?_
        refine WL.extract (v := .int .i64 x24) rfl rfl ?_
        refine WL.extract (v := .int .i64 x25) rfl rfl ?_
        refine WL.assign (v := .slice a26 n27 c28) rfl ?_
        refine WL.assign (v := .int .i64 x24) rfl ?_
        refine WL.assign (v := .int .i64 x25) rfl ?_
        refine WL.nil ?_
        refine hK20 _ _ ?_
        refine W.seqK fun K29 hK29 => ?_
        refine W.region ?_
        refine WL.move (v := bstr x1) h18_0 ?_
        obtain ⟨x30, hxx30, hf⟩ := bindE hf
        refine WL.binS (v := bstr x30) rfl rfl (sb_cat hxx30) ?_
        obtain ⟨x31, hxx31, hf⟩ := bindE hf
        refine WL.binS (v := bstr x31) rfl rfl (sb_cat hxx31) ?_
        refine WL.move (v := bstr x2) h18_1 ?_
        obtain ⟨x32, hxx32, hf⟩ := bindE hf
        refine WL.binS (v := bstr x32) rfl rfl (sb_cat hxx32) ?_
        refine WL.loadAll hs 1 rfl TI36 h18_5 hl6 ?_
        obtain ⟨⟨x33, x34, x35⟩, hxx33, hf⟩ := bindE hf
        refine WL.call (vs := [bstr x32, .agg cs5.toArray]) hs FN14 ⟨rfl, ⟨rfl, trivial⟩⟩ (fun ok hA => command_Compile.calls (x1 := x32) (x2 := x3) hxx33 (hA.get 0 rfl)) ?_
        rintro ⟨a36, n37, c38⟩ w hs
        refine WL.move (v := .tuple #[.slice a36 n37 c38, .int .i64 x34, .int .i64 x35]) rfl ?_
        refine WL.extract (v := .slice a36 n37 c38) rfl rfl ?_
        refine WL.extract (v := .int .i64 x34) rfl rfl ?_
        refine WL.extract (v := .int .i64 x35) rfl rfl ?_
        refine WL.assign (v := .slice a36 n37 c38) rfl ?_
        refine WL.assign (v := .int .i64 x34) rfl ?_
        refine WL.assign (v := .int .i64 x35) rfl ?_
        refine WL.nil ?_
        refine hK29 _ _ ?_
        refine W.seqK fun K39 hK39 => ?_
        refine W.region ?_
        refine WL.move (v := .int .i64 x24) rfl ?_
        refine WL.assign (v := .int .i64 x24) rfl ?_
        refine WL.nil ?_
        refine hK39 _ _ ?_
        refine W.seqK fun K40 hK40 => ?_
        have Jk43 : ∀ (x42 : Int) (ρ : Env) (w : World), ρ 8 = .slice a26 n27 c28 → ρ 9 = .int .i64 x24 → ρ 10 = .int .i64 x25 → ρ 11 = .slice a36 n37 c38 → ρ 12 = .int .i64 x34 → ρ 13 = .int .i64 x35 → ρ 14 = .int .i64 x42 → St ok (bz w0) w [] [own t_api_Change 26 (.slice a36 n37 c38) x33, own t_api_Change 26 (.slice a26 n27 c28) x23] → eslaw08_CommandLines.j3 x23 x24 x25 x33 x34 x35 x42 = some r → K40 ρ w := by
          intro x42 ρ w h41_8 h41_9 h41_10 h41_11 h41_12 h41_13 h41_14 hs hf
          refine hK40 _ _ ?_
          unfold eslaw08_CommandLines.j3 at hf
          refine W.seqK fun K44 hK44 => ?_
          have Jk47 : ∀ (x46 : Int) (ρ : Env) (w : World), ρ 8 = .slice a26 n27 c28 → ρ 10 = .int .i64 x25 → ρ 11 = .slice a36 n37 c38 → ρ 12 = .int .i64 x34 → ρ 13 = .int .i64 x35 → ρ 14 = .int .i64 x46 → St ok (bz w0) w [] [own t_api_Change 26 (.slice a36 n37 c38) x33, own t_api_Change 26 (.slice a26 n27 c28) x23] → eslaw08_CommandLines.j2 x23 x25 x33 x34 x35 x46 = some r → K44 ρ w := by
            intro x46 ρ w h45_8 h45_10 h45_11 h45_12 h45_13 h45_14 hs hf
            refine hK44 _ _ ?_
            unfold eslaw08_CommandLines.j2 at hf
            refine W.seqK fun K48 hK48 => ?_
            have Jk51 : ∀ (x50 : Bool) (ρ : Env) (w : World), ρ 6 = .bool x50 → St ok (bz w0) w [] [] → eslaw08_CommandLines.j1 x50 = some r → K48 ρ w := by
              intro x50 ρ w h49_6 hs hf
              refine hK48 _ _ ?_
              unfold eslaw08_CommandLines.j1 at hf
              refine W.ret ?_
              have hr := Option.some.inj hf; subst hr
              exact ⟨_, resOk_one rfl h49_6, (), rfl, (hs.mask []).pick []⟩
            refine W.region ?_
            refine WL.move (v := .slice a26 n27 c28) h45_8 ?_
            refine WL.move (v := .slice a36 n37 c38) h45_11 ?_
            obtain ⟨x52, hxx52, hf⟩ := bindE hf
            refine WL.callL (vs := [.slice a26 x23.length c28, .slice a36 x33.length c38]) hs FN16 ⟨(Eq.trans rfl (sl_len (hs.ownLen 1 rfl))), ⟨(Eq.trans rfl (sl_len (hs.ownLen 0 rfl))), trivial⟩⟩ (eslaw08_same.calls (x1 := x23) (x4 := x33) hxx52 (hs.ownN 1 rfl) (hs.ownN 0 rfl)) ?_
            rintro _ w hs
            refine WL.move (v := .bool x52) rfl ?_
            rcases iteE hf with ⟨hc53, hf⟩ | ⟨hc53, hf⟩
            · refine WL.move (v := .int .i64 x25) h45_10 ?_ (hg := (wanted_of rfl rfl (bool_tr rfl hc53)).trans rfl)
              refine WL.move (v := .int .i64 x35) h45_13 ?_ (hg := (wanted_of rfl rfl (bool_tr rfl hc53)).trans rfl)
              refine WL.bin (v := .bool (x25 == x35)) rfl rfl (ib_eql _ _ _) ?_ (hg := (wanted_of rfl rfl (bool_tr rfl hc53)).trans rfl)
              refine WL.pickT (v := .bool (x25 == x35)) (bool_tr rfl hc53) rfl ?_
              refine WL.move (v := .bool (x25 == x35)) rfl ?_
              rcases iteE hf with ⟨hc54, hf⟩ | ⟨hc54, hf⟩
              · refine WL.move (v := .int .i64 x34) h45_12 ?_ (hg := (wanted_of rfl rfl (bool_tr rfl hc54)).trans rfl)
                refine WL.move (v := .int .i64 x46) h45_14 ?_ (hg := (wanted_of rfl rfl (bool_tr rfl hc54)).trans rfl)
                refine WL.bin (v := .bool (x34 == x46)) rfl rfl (ib_eql _ _ _) ?_ (hg := (wanted_of rfl rfl (bool_tr rfl hc54)).trans rfl)
                refine WL.pickT (v := .bool (x34 == x46)) (bool_tr rfl hc54) rfl ?_
                refine WL.move (v := .bool (x34 == x46)) rfl ?_
                rcases iteE hf with ⟨hc55, hf⟩ | ⟨hc55, hf⟩
                · obtain ⟨x56, hxx56, hf⟩ := bindE hf
                  refine WL.call (vs := []) hs FN8 trivial (fun ok hA => eslaw08_awake.calls hxx56) ?_ (hg := (wanted_of rfl rfl (bool_tr rfl hc55)).trans rfl)
                  rintro _ w hs
                  refine WL.pickT (v := .bool x56) (bool_tr rfl hc55) rfl ?_
                  refine WL.assign (v := .bool x56) rfl ?_
                  refine WL.nil ?_
                  exact Jk51 x56 _ _ rfl ((hs.mask []).pick []) hf
                · refine WL.pass ((wanted_of rfl rfl (bool_tr rfl hc55)).trans rfl) rfl ?_
                  refine WL.pickF (v := .bool false) (bool_tr rfl hc55) rfl ?_
                  refine WL.assign (v := .bool false) rfl ?_
                  refine WL.nil ?_
                  exact Jk51 false _ _ rfl ((hs.mask []).pick []) hf
              · refine WL.pass ((wanted_of rfl rfl (bool_tr rfl hc54)).trans rfl) rfl ?_
                refine WL.pass ((wanted_of rfl rfl (bool_tr rfl hc54)).trans rfl) rfl ?_
                refine WL.pass ((wanted_of rfl rfl (bool_tr rfl hc54)).trans rfl) rfl ?_
                refine WL.pickF (v := .bool false) (bool_tr rfl hc54) rfl ?_
                refine WL.move (v := .bool false) rfl ?_
                refine WL.pass ((wanted_of rfl rfl rfl).trans rfl) rfl ?_
                refine WL.pickF (v := .bool false) rfl rfl ?_
                refine WL.assign (v := .bool false) rfl ?_
                refine WL.nil ?_
                exact Jk51 false _ _ rfl ((hs.mask []).pick []) hf
            · refine WL.pass ((wanted_of rfl rfl (bool_tr rfl hc53)).trans rfl) rfl ?_
              refine WL.pass ((wanted_of rfl rfl (bool_tr rfl hc53)).trans rfl) rfl ?_
              refine WL.pass ((wanted_of rfl rfl (bool_tr rfl hc53)).trans rfl) rfl ?_
              refine WL.pickF (v := .bool false) (bool_tr rfl hc53) rfl ?_
              refine WL.move (v := .bool false) rfl ?_
              refine WL.pass ((wanted_of rfl rfl rfl).trans rfl) rfl ?_
              refine WL.pass ((wanted_of rfl rfl rfl).trans rfl) rfl ?_
              refine WL.pass ((wanted_of rfl rfl rfl).trans rfl) rfl ?_
              refine WL.pickF (v := .bool false) rfl rfl ?_
              refine WL.move (v := .bool false) rfl ?_
              refine WL.pass ((wanted_of rfl rfl rfl).trans rfl) rfl ?_
              refine WL.pickF (v := .bool false) rfl rfl ?_
              refine WL.assign (v := .bool false) rfl ?_
              refine WL.nil ?_
              exact Jk51 false _ _ rfl ((hs.mask []).pick []) hf
          refine W.seqK fun K57 hK57 => ?_
          refine W.region ?_
          refine WL.move (v := .int .i64 x24) h41_9 ?_
          refine WL.bin (v := .bool (decide (1 < x24))) rfl rfl (ib_gtr _ _ _) ?_
          refine WL.nil ?_
          refine hK57 _ _ ?_
          rcases iteE hf with ⟨hc58, hf⟩ | ⟨hc58, hf⟩
          · refine W.cond_true (bool_tr rfl hc58) ?_
            refine W.region ?_
            refine WL.move (v := .int .i64 x24) h41_9 ?_
            obtain ⟨x59, ex59, hf⟩ := letE hf
            refine WL.bin (v := .int .i64 x59) rfl rfl (ib_as ex59 (ib_add _ _ _)) ?_
            refine WL.assign (v := .int .i64 x59) rfl ?_
            refine WL.nil ?_
            exact Jk47 x59 _ _ h41_8 h41_10 h41_11 h41_12 h41_13 rfl ((hs.mask [true, true]).pick []) hf
          · refine W.cond_false (bool_tr rfl hc58) ?_
            refine W.skip ?_
            exact Jk47 x42 _ _ h41_8 h41_10 h41_11 h41_12 h41_13 h41_14 ((hs.mask [true, true]).pick []) hf
        refine W.seqK fun K60 hK60 => ?_
        refine W.region ?_
        refine WL.move (v := .int .i64 x24) rfl ?_
        refine WL.bin (v := .bool (x24 == 1)) rfl rfl (ib_eql _ _ _) ?_
        refine WL.nil ?_
        refine hK60 _ _ ?_
        rcases iteE hf with ⟨hc61, hf⟩ | ⟨hc61, hf⟩
        · refine W.cond_true (bool_tr rfl hc61) ?_
          refine W.region ?_
          refine WL.assign (v := .int .i64 2) rfl ?_
          refine WL.nil ?_
          exact Jk43 2 _ _ rfl rfl rfl rfl rfl rfl rfl ((hs.mask [true, true]).pick []) hf
        · refine W.cond_false (bool_tr rfl hc61) ?_
          refine W.skip ?_
          exact Jk43 x24 _ _ rfl rfl rfl rfl rfl rfl rfl ((hs.mask [true, true]).pick []) hf
      refine W.seqK fun K62 hK62 => ?_
      refine W.region ?_
      refine WL.assign (v := .int .i64 0) rfl ?_
      refine WL.nil ?_
      refine hK62 _ _ ?_
      refine W.block ?_
      obtain ⟨bs65, hbs65, hfs65⟩ := bindE hf
      refine W.loop hbs65 (fun s ρ w => match s with | x64 => ρ 0 = bstr x1 ∧ ρ 1 = bstr x2 ∧ ρ 5 = .pointer (some ⟨g8, 0, none⟩) ∧ ρ 7 = .int .i64 x64 ∧ St ok (bz w0) w [vl t_api_Summary x3 (.agg cs5.toArray)] [blk g8 36 cs5]) ⟨h11_0, h11_1, h11_5, rfl, (hs.mask [true]).pick [0]⟩ ?_
      intro x64 ρ w os65 hI hf hbbs65
      obtain ⟨h63_0, h63_1, h63_5, h63_7, hs⟩ := hI
      unfold eslaw08_CommandLines.l1 at hf
      refine W.seqK fun K66 hK66 => ?_
      refine W.seqK fun K67 hK67 => ?_
      refine W.region ?_
      refine WL.move (v := .int .i64 x64) h63_7 ?_
      refine WL.move (v := bstr x1) h63_0 ?_
      refine WL.len (v := bstr x1) rfl (len_string UN9) ?_
      refine WL.bin (v := .bool (decide (x64 < (x1.length : Int)))) rfl rfl (ib_lss _ _ _) ?_
      refine WL.nil ?_
      refine hK67 _ _ ?_
      rcases iteE hf with ⟨hc68, hf⟩ | ⟨hc68, hf⟩
      · refine W.cond_true (bool_tr rfl hc68) ?_
        refine W.skip ?_
        refine hK66 _ _ ?_
        refine W.seqK fun K69 hK69 => ?_
        refine W.block ?_
        refine W.seqK fun K70 hK70 => ?_
        refine W.region ?_
        refine WL.move (v := bstr x1) h63_0 ?_
        refine WL.move (v := .int .i64 x64) h63_7 ?_
        obtain ⟨x71, hxx71, hf⟩ := bindE hf
        refine WL.indexS UN9 rfl rfl hxx71 ?_
        refine WL.bin (v := .bool ((x71.toNat : Int) == 10)) rfl rfl (ib_eql _ _ _) ?_
        refine WL.nil ?_
        refine hK70 _ _ ?_
        rcases iteE hf with ⟨hc72, hf⟩ | ⟨hc72, hf⟩
        · refine W.cond_true (bool_tr rfl hc72) ?_
          refine W.seqK fun K73 hK73 => ?_
          refine W.region ?_
          obtain ⟨x74, hxx74, hf⟩ := bindE hf
          refine WL.call (vs := []) hs FN8 trivial (fun ok hA => eslaw08_awake.calls hxx74) ?_
          rintro _ w hs
          refine WL.assign (v := .bool x74) rfl ?_
          refine WL.nil ?_
          refine hK73 _ _ ?_
          refine W.ret ?_
          have hr := Option.some.inj hf; subst hr
          have hr := hbbs65 _ rfl; subst hr
          have hf := hfs65
          have hr := Option.some.inj hf; subst hr
          exact ⟨_, resOk_one rfl rfl, (), rfl, (hs.mask []).pick []⟩
        · refine W.cond_false (bool_tr rfl hc72) ?_
          refine W.skip ?_
          refine hK69 _ _ ?_
          refine W.region ?_
          refine WL.move (v := .int .i64 x64) h63_7 ?_
          obtain ⟨x75, ex75, hf⟩ := letE hf
          refine WL.bin (v := .int .i64 x75) rfl rfl (ib_as ex75 (ib_add _ _ _)) ?_
          refine WL.assign (v := .int .i64 x75) rfl ?_
          refine WL.nil ?_
          exact ⟨_, (Option.some.inj hf).symm, h63_0, h63_1, h63_5, rfl, (hs.mask [true]).pick [0]⟩
      · refine W.cond_false (bool_tr rfl hc68) ?_
        refine W.exit ?_
        have hr := Option.some.inj hf; subst hr
        have hr := hbbs65 _ rfl; subst hr
        have hf := hfs65
        exact Jk19  _ _ h63_0 h63_1 h63_5 ((hs.mask [true]).pick [0]) hf
  refine W.region ?_
  refine WL.move (v := bstr x1) rfl ?_
  refine WL.len (v := bstr x1) rfl (len_string UN9) ?_
  refine WL.bin (v := .bool (decide (300 < (x1.length : Int)))) rfl rfl (ib_gtr _ _ _) ?_
  refine WL.move (v := .bool (decide (300 < (x1.length : Int)))) rfl ?_
  rcases iteE hf with ⟨hc77, hf⟩ | ⟨hc77, hf⟩
  · refine WL.pass ((wanted_of rfl rfl (bool_tr rfl hc77)).trans rfl) rfl ?_
    refine WL.pass ((wanted_of rfl rfl (bool_tr rfl hc77)).trans rfl) rfl ?_
    refine WL.pass ((wanted_of rfl rfl (bool_tr rfl hc77)).trans rfl) rfl ?_
    refine WL.pickT (v := .bool true) (bool_tr rfl hc77) rfl ?_
    refine WL.move (v := .bool true) rfl ?_
    refine WL.pass ((wanted_of rfl rfl rfl).trans rfl) rfl ?_
    refine WL.pass ((wanted_of rfl rfl rfl).trans rfl) rfl ?_
    refine WL.pass ((wanted_of rfl rfl rfl).trans rfl) rfl ?_
    refine WL.pickT (v := .bool true) rfl rfl ?_
    refine WL.nil ?_
    exact Jk13 true _ _ rfl rfl rfl rfl ((hs.mask [true]).pick [0]) hf
  · refine WL.move (v := bstr x2) rfl ?_ (hg := (wanted_of rfl rfl (bool_tr rfl hc77)).trans rfl)
    refine WL.len (v := bstr x2) rfl (len_string UN9) ?_ (hg := (wanted_of rfl rfl (bool_tr rfl hc77)).trans rfl)
    refine WL.bin (v := .bool (decide (300 < (x2.length : Int)))) rfl rfl (ib_gtr _ _ _) ?_ (hg := (wanted_of rfl rfl (bool_tr rfl hc77)).trans rfl)
    refine WL.pickF (v := .bool (decide (300 < (x2.length : Int)))) (bool_tr rfl hc77) rfl ?_
    refine WL.move (v := .bool (decide (300 < (x2.length : Int)))) rfl ?_
    rcases iteE hf with ⟨hc78, hf⟩ | ⟨hc78, hf⟩
    · refine WL.pass ((wanted_of rfl rfl (bool_tr rfl hc78)).trans rfl) rfl ?_
      refine WL.pass ((wanted_of rfl rfl (bool_tr rfl hc78)).trans rfl) rfl ?_
      refine WL.pass ((wanted_of rfl rfl (bool_tr rfl hc78)).trans rfl) rfl ?_
      refine WL.pickT (v := .bool true) (bool_tr rfl hc78) rfl ?_
      refine WL.nil ?_
      exact Jk13 true _ _ rfl rfl rfl rfl ((hs.mask [true]).pick [0]) hf
    · refine WL.loadAll hs 0 rfl TI36 rfl hl6 ?_ (hg := (wanted_of rfl rfl (bool_tr rfl hc78)).trans rfl)
      obtain ⟨x79, hxx79, hf⟩ := bindE hf
      refine WL.call (vs := [.agg cs5.toArray]) hs FN13 ⟨rfl, trivial⟩ (fun ok hA => esref10_ValidateSummary.calls (x1 := x3) hxx79 (hA.get 0 rfl)) ?_ (hg := (wanted_of rfl rfl (bool_tr rfl hc78)).trans rfl)
      rintro _ w hs
      refine WL.bin (v := .bool (x79 != 0)) rfl rfl (ib_neq _ _ _) ?_ (hg := (wanted_of rfl rfl (bool_tr rfl hc78)).trans rfl)
      refine WL.pickF (v := .bool (x79 != 0)) (bool_tr rfl hc78) rfl ?_
      refine WL.nil ?_
      exact Jk13 (x79 != 0) _ _ rfl rfl rfl rfl ((hs.mask [true]).pick [0]) hf
end Go.Proofs.YthfoljpjhegkmaaDoor
