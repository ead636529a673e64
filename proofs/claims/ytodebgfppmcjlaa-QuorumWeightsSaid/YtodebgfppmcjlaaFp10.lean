import Derived.Test.YtodebgfppmcjlaaFh
import Derived.Test.YtodebgfppmcjlaaLt
import Derived.Test.YtodebgfppmcjlaaFp0
import Derived.Test.YtodebgfppmcjlaaFp3
import Derived.Test.YtodebgfppmcjlaaFp4
import Derived.Test.YtodebgfppmcjlaaFp7
import Derived.Test.YtodebgfppmcjlaaFp8
import Derived.Test.YtodebgfppmcjlaaFp9
set_option linter.unusedVariables false
set_option linter.unusedSimpArgs false
namespace Go.Proofs.Ytodebgfppmcjlaa
open Go Go.RowKit Go.Proofs.YtodebgfppmcjlaaL
set_option maxRecDepth 100000
set_option maxHeartbeats 4000000
/-! elasticstore/elasticstorelaw04.chosen: function 24 -/
theorem eslaw04_chosen.calls {ok : Nat → Prop} {w0 : World} {x1 : Int}  {r : List Int} (hf : eslaw04_chosen x1 = some r)  :
    Calls Try.prog 24 #[.int .i64 x1] w0 fun e w' => ∃ v, e = .returned v ∧ ∃ y : (Option Addr × Nat × Nat), v = .slice y.1 y.2.1 y.2.2 ∧ St ok (bz w0) w' [] [own (tInt .i64) 3 (.slice y.1 y.2.1 y.2.2) r] := by
  unfold eslaw04_chosen at hf
  refine calls_of_W (fn := Try.f24) (N := 19) Try.func24 rfl Try.ntmps24 rfl ?_
  have hs : St ok (bz w0) w0 [] [] := St.init All.nil
  refine W.seqK fun K2 hK2 => ?_
  refine W.region ?_
  refine WL.assign (v := .slice none 0 0) rfl ?_
  refine WL.nil ?_
  refine hK2 _ _ ?_
  refine W.seqK fun K3 hK3 => ?_
  refine W.region ?_
  refine WL.assign (v := .slice none 0 0) rfl ?_
  refine WL.nil ?_
  refine hK3 _ _ ?_
  refine W.seqK fun K4 hK4 => ?_
  have hs := hs.ownNil (tInt .i64) 3
  have Jk10 : ∀ (x6 : List Int) (a7 : Option Addr) (c8 : Nat) (n9 : Nat) (ρ : Env) (w : World), ρ 3 = .slice a7 n9 c8 → St ok (bz w0) w [] [own (tInt .i64) 3 (.slice a7 n9 c8) x6] → eslaw04_chosen.j1 x6 = some r → K4 ρ w := by
    intro x6 a7 c8 n9 ρ w h5_3 hs hf
    refine hK4 _ _ ?_
    unfold eslaw04_chosen.j1 at hf
    refine W.seqK fun K11 hK11 => ?_
    refine W.region ?_
    refine WL.move (v := .slice a7 n9 c8) h5_3 ?_
    refine WL.assign (v := .slice a7 n9 c8) rfl ?_
    refine WL.nil ?_
    refine hK11 _ _ ?_
    refine W.ret ?_
    have hr := Option.some.inj hf; subst hr
    exact ⟨_, resOk_one rfl rfl, (a7, n9, c8), rfl, (hs.mask [true]).pick []⟩
  refine W.seqK fun K12 hK12 => ?_
  refine W.region ?_
  refine WL.assign (v := .int .i64 0) rfl ?_
  refine WL.nil ?_
  refine hK12 _ _ ?_
  refine W.block ?_
  obtain ⟨bs19, hbs19, hfs19⟩ := bindE hf
  refine W.loop hbs19 (fun s ρ w => match s with | (x14, x18) => ∃ (a15 : Option Addr), ∃ (c16 : Nat), ∃ (n17 : Nat), ρ 0 = .int .i64 x1 ∧ ρ 3 = .slice a15 n17 c16 ∧ ρ 4 = .int .i64 x18 ∧ St ok (bz w0) w [] [own (tInt .i64) 3 (.slice a15 n17 c16) x14]) ⟨none, 0, 0, rfl, rfl, rfl, (hs.mask [true]).pick []⟩ ?_
  intro s ρ w os19 hI hf hbbs19
  obtain ⟨x14, x18⟩ := s
  obtain ⟨a15, c16, n17, h13_0, h13_3, h13_4, hs⟩ := hI
  unfold eslaw04_chosen.l1 at hf
  refine W.seqK fun K20 hK20 => ?_
  refine W.seqK fun K21 hK21 => ?_
  refine W.region ?_
  refine WL.move (v := .int .i64 x18) h13_4 ?_
  refine WL.bin (v := .bool (decide (x18 < 8))) rfl rfl (ib_lss _ _ _) ?_
  refine WL.nil ?_
  refine hK21 _ _ ?_
  rcases iteE hf with ⟨hc22, hf⟩ | ⟨hc22, hf⟩
  · refine W.cond_true (bool_tr rfl hc22) ?_
    refine W.skip ?_
    refine hK20 _ _ ?_
    refine W.seqK fun K23 hK23 => ?_
    have Jk29 : ∀ (x25 : List Int) (a26 : Option Addr) (c27 : Nat) (n28 : Nat) (ρ : Env) (w : World), ρ 0 = .int .i64 x1 → ρ 3 = .slice a26 n28 c27 → ρ 4 = .int .i64 x18 → St ok (bz w0) w [] [own (tInt .i64) 3 (.slice a26 n28 c27) x25] → eslaw04_chosen.j2 x18 x25 = some os19 → K23 ρ w := by
      intro x25 a26 c27 n28 ρ w h24_0 h24_3 h24_4 hs hf
      refine hK23 _ _ ?_
      unfold eslaw04_chosen.j2 at hf
      refine W.region ?_
      refine WL.move (v := .int .i64 x18) h24_4 ?_
      obtain ⟨x30, ex30, hf⟩ := letE hf
      refine WL.bin (v := .int .i64 x30) rfl rfl (ib_as ex30 (ib_add _ _ _)) ?_
      refine WL.assign (v := .int .i64 x30) rfl ?_
      refine WL.nil ?_
      exact ⟨_, (Option.some.inj hf).symm, a26, c27, n28, h24_0, h24_3, rfl, (hs.mask [true]).pick []⟩
    refine W.block ?_
    refine W.seqK fun K31 hK31 => ?_
    refine W.region ?_
    refine WL.move (v := .int .i64 x1) h13_0 ?_
    refine WL.move (v := .int .i64 x18) h13_4 ?_
    obtain ⟨x32, hxx32, hf⟩ := bindE hf
    refine WL.call (vs := [.int .i64 x1, .int .i64 2, .int .i64 x18]) hs FN29 ⟨rfl, ⟨rfl, ⟨rfl, trivial⟩⟩⟩ (fun ok hA => eslaw00_Digit.calls (x1 := x1) (x2 := 2) (x3 := x18) hxx32) ?_
    rintro _ w hs
    refine WL.bin (v := .bool (x32 == 1)) rfl rfl (ib_eql _ _ _) ?_
    refine WL.nil ?_
    refine hK31 _ _ ?_
    rcases iteE hf with ⟨hc33, hf⟩ | ⟨hc33, hf⟩
    · refine W.cond_true (bool_tr rfl hc33) ?_
      refine W.region ?_
      refine WL.move (v := .slice a15 n17 c16) h13_3 ?_
      refine WL.move (v := .int .i64 x18) h13_4 ?_
      obtain ⟨x34, ex34, hf⟩ := letE hf
      refine WL.bin (v := .int .i64 x34) rfl rfl (ib_as ex34 (ib_add _ _ _)) ?_
      refine WL.buildSlice (n := 1) (vs := [(0, .int .i64 x34)]) (cs := [.int .i64 x34]) hs ⟨⟨rfl, rfl⟩, trivial⟩ (bls PS33 (by decide) rfl) (fun g35 w hs => ?_)
      obtain ⟨x36, hxx36, hf⟩ := bindE hf
      obtain ⟨hbx36, hex36⟩ := appE hxx36
      refine WL.append (ys := [x34]) (zs := x36) hs 1 rfl 0 rfl UN33 EI3 rfl rfl (fun ok hA => (Cells.one (T := tInt .i64) rfl)) hbx36 (by omega) hex36 (fun v37 w hs => ?_)
      obtain ⟨a38, n40, c39, rfl⟩ := hs.ownv3 1 rfl
      refine WL.assign (v := .slice a38 n40 c39) rfl ?_
      refine WL.nil ?_
      exact Jk29 x36 a38 c39 n40 _ _ h13_0 rfl h13_4 ((hs.mask [false, true]).pick []) hf
    · refine W.cond_false (bool_tr rfl hc33) ?_
      refine W.skip ?_
      exact Jk29 x14 a15 c16 n17 _ _ h13_0 h13_3 h13_4 ((hs.mask [true]).pick []) hf
  · refine W.cond_false (bool_tr rfl hc22) ?_
    refine W.exit ?_
    have hr := Option.some.inj hf; subst hr
    have hr := hbbs19 _ rfl; subst hr
    have hf := hfs19
    exact Jk10 x14 a15 c16 n17 _ _ h13_3 ((hs.mask [true]).pick []) hf
theorem eslaw04_chosen.callc {ok : Nat → Prop} {w0 : World} {x1 : Int}  {r : List Int} (hf : eslaw04_chosen x1 = some r)  :
    Calls Try.prog 24 #[.int .i64 x1] w0 fun e w' => ∃ v, e = .returned v ∧ ∃ y : (Option Addr × Nat), v = .slice y.1 r.length y.2 ∧ St ok (bz w0) w' [vl (tSlice (tInt .i64)) r (.slice y.1 r.length y.2)] [] := by
  refine (eslaw04_chosen.calls (ok := ok) (w0 := w0) (x1 := x1) hf).mono ?_
  rintro e w' ⟨v, rfl, ⟨a42, n43, c44⟩, rfl, hs⟩
  obtain rfl := hs.ownLen 0 rfl
  have hs := hs.freezeOwn 0 rfl
  exact ⟨_, rfl, (a42, c44), rfl, hs.pick [0]⟩
/-! elasticstore/elasticstorelaw04.QuorumIntersect: function 7 -/
theorem eslaw04_QuorumIntersect.calls {ok : Nat → Prop} {w0 : World} {x1 : Int} {x2 : Int} {x3 : Int} {x4 : Int}  {r : Bool} (hf : eslaw04_QuorumIntersect x1 x2 x3 x4 = some r)  :
    Calls Try.prog 7 #[.int .i64 x1, .int .i64 x2, .int .i64 x3, .int .i64 x4] w0 fun e w' => ∃ v, e = .returned v ∧ ∃ y : Unit, v = .bool r ∧ St ok (bz w0) w' [] [] := by
  unfold eslaw04_QuorumIntersect at hf
  refine calls_of_W (fn := Try.f7) (N := 73) Try.func7 rfl Try.ntmps7 rfl ?_
  have hs : St ok (bz w0) w0 [] [] := St.init All.nil
  refine W.seqK fun K5 hK5 => ?_
  refine W.region ?_
  refine WL.assign (v := .bool false) rfl ?_
  refine WL.nil ?_
  refine hK5 _ _ ?_
  refine W.seqK fun K6 hK6 => ?_
  refine W.region ?_
  refine WL.move (v := .int .i64 x1) rfl ?_
  refine WL.move (v := .int .i64 x2) rfl ?_
  obtain ⟨x7, hxx7, hf⟩ := bindE hf
  refine WL.call (vs := [.int .i64 x1, .int .i64 x2]) hs FN22 ⟨rfl, ⟨rfl, trivial⟩⟩ (fun ok hA => eslaw04_view.calls (x1 := x1) (x2 := x2) hxx7) ?_
  rintro ⟨a8, n9, c10⟩ w hs
  refine WL.alloc hs ZV26 (fun g11 w hs => ?_)
  refine WL.storeAll (vs := [.slice a8 n9 c10, .int .i64 x7.Rule.Kind, .int .i64 x7.Rule.Columns, .int .i64 x7.Rule.Faulty]) hs 0 rfl TI26 rfl rfl rfl rfl (ones_of rfl) rfl (fun w hs => ?_)
  refine WL.nil ?_
  refine hK6 _ _ ?_
  refine W.seqK fun K12 hK12 => ?_
  refine W.region ?_
  refine WL.move (v := .int .i64 x3) rfl ?_
  obtain ⟨x13, hxx13, hf⟩ := bindE hf
  refine WL.call (vs := [.int .i64 x3]) hs FN24 ⟨rfl, trivial⟩ (fun ok hA => eslaw04_chosen.calls (x1 := x3) hxx13) ?_
  rintro ⟨a14, n15, c16⟩ w hs
  refine WL.move (v := .int .i64 x4) rfl ?_
  obtain ⟨x17, hxx17, hf⟩ := bindE hf
  refine WL.call (vs := [.int .i64 x4]) hs FN24 ⟨rfl, trivial⟩ (fun ok hA => eslaw04_chosen.calls (x1 := x4) hxx17) ?_
  rintro ⟨a18, n19, c20⟩ w hs
  refine WL.assign (v := .slice a14 n15 c16) rfl ?_
  refine WL.assign (v := .slice a18 n19 c20) rfl ?_
  refine WL.nil ?_
  refine hK12 _ _ ?_
  refine W.seqK fun K21 hK21 => ?_
  refine W.seqK fun K22 hK22 => ?_
  have Jk25 : ∀ (x24 : Bool) (ρ : Env) (w : World), ρ 9 = .pointer (some ⟨g11, 0, none⟩) → ρ 10 = .slice a14 n15 c16 → ρ 11 = .slice a18 n19 c20 → ρ 30 = .bool x24 → St ok (bz w0) w [] [own (tInt .i64) 3 (.slice a18 n19 c20) x17, own (tInt .i64) 3 (.slice a14 n15 c16) x13, blk g11 26 [.slice a8 n9 c10, .int .i64 x7.Rule.Kind, .int .i64 x7.Rule.Columns, .int .i64 x7.Rule.Faulty], own t_api_Member 44 (.slice a8 n9 c10) x7.Members] → eslaw04_QuorumIntersect.j5 x7 x13 x17 x24 = some r → K22 ρ w := by
    intro x24 ρ w h23_9 h23_10 h23_11 h23_30 hs hf
    refine hK22 _ _ ?_
    unfold eslaw04_QuorumIntersect.j5 at hf
    rcases iteE hf with ⟨hc26, hf⟩ | ⟨hc26, hf⟩
    · refine W.cond_true (bool_tr h23_30 hc26) ?_
      refine W.seqK fun K27 hK27 => ?_
      refine W.region ?_
      obtain ⟨x28, hxx28, hf⟩ := bindE hf
      refine WL.call (vs := []) hs FN11 trivial (fun ok hA => eslaw04_awake.calls hxx28) ?_
      rintro _ w hs
      refine WL.assign (v := .bool x28) rfl ?_
      refine WL.nil ?_
      refine hK27 _ _ ?_
      refine W.ret ?_
      have hr := Option.some.inj hf; subst hr
      exact ⟨_, resOk_one rfl rfl, (), rfl, (hs.mask []).pick []⟩
    · refine W.cond_false (bool_tr h23_30 hc26) ?_
      refine W.skip ?_
      refine hK21 _ _ ?_
      refine W.seqK fun K29 hK29 => ?_
      refine W.region ?_
      refine WL.assign (v := .int .i64 0) rfl ?_
      refine WL.nil ?_
      refine hK29 _ _ ?_
      refine W.seqK fun K30 hK30 => ?_
      have Jk33 : ∀ (x32 : Int) (ρ : Env) (w : World), ρ 9 = .pointer (some ⟨g11, 0, none⟩) → ρ 12 = .int .i64 x32 → St ok (bz w0) w [] [blk g11 26 [.slice a8 n9 c10, .int .i64 x7.Rule.Kind, .int .i64 x7.Rule.Columns, .int .i64 x7.Rule.Faulty], own t_api_Member 44 (.slice a8 n9 c10) x7.Members] → eslaw04_QuorumIntersect.j2 x7 x32 = some r → K30 ρ w := by
        intro x32 ρ w h31_9 h31_12 hs hf
        refine hK30 _ _ ?_
        unfold eslaw04_QuorumIntersect.j2 at hf
        refine W.seqK fun K34 hK34 => ?_
        have Jk37 : ∀ (x36 : Bool) (ρ : Env) (w : World), ρ 8 = .bool x36 → St ok (bz w0) w [] [] → eslaw04_QuorumIntersect.j1 x36 = some r → K34 ρ w := by
          intro x36 ρ w h35_8 hs hf
          refine hK34 _ _ ?_
          unfold eslaw04_QuorumIntersect.j1 at hf
          refine W.ret ?_
          have hr := Option.some.inj hf; subst hr
          exact ⟨_, resOk_one rfl h35_8, (), rfl, (hs.mask []).pick []⟩
        refine W.region ?_
        refine WL.move (v := .int .i64 x32) h31_12 ?_
        refine WL.fieldAddr (m := 1) h31_9 FA26_1 rfl ?_
        refine WL.loadN (vs := [.int .i64 x7.Rule.Kind, .int .i64 x7.Rule.Columns, .int .i64 x7.Rule.Faulty]) hs 0 rfl TI23 rfl rfl rfl ?_
        have hs := hs.add (it := vl t_api_Rule (⟨x7.Rule.Kind, x7.Rule.Columns, x7.Rule.Faulty⟩ : api_Rule) (.agg [.int .i64 x7.Rule.Kind, .int .i64 x7.Rule.Columns, .int .i64 x7.Rule.Faulty].toArray)) fun ok hA => V_agg (show t_api_Rule.R ok _ _ _ from ⟨[.int .i64 x7.Rule.Kind], [.int .i64 x7.Rule.Columns, .int .i64 x7.Rule.Faulty], rfl, rfl, ⟨[.int .i64 x7.Rule.Columns], [.int .i64 x7.Rule.Faulty], rfl, rfl, rfl⟩⟩) rfl
        obtain ⟨x38, hxx38, hf⟩ := bindE hf
        refine WL.call (vs := [.agg ([.int .i64 x7.Rule.Kind, .int .i64 x7.Rule.Columns, .int .i64 x7.Rule.Faulty] : List Value).toArray]) hs FN16 ⟨rfl, trivial⟩ (fun ok hA => quorum_Faulty.calls (x1 := (⟨x7.Rule.Kind, x7.Rule.Columns, x7.Rule.Faulty⟩ : api_Rule)) hxx38 (hA.get 0 rfl)) ?_
        rintro _ w hs
        refine WL.bin (v := .bool (decide (x38 < x32))) rfl rfl (ib_gtr _ _ _) ?_
        refine WL.move (v := .bool (decide (x38 < x32))) rfl ?_
        rcases iteE hf with ⟨hc39, hf⟩ | ⟨hc39, hf⟩
        · refine WL.move (v := .int .i64 x32) h31_12 ?_ (hg := (wanted_of rfl rfl (bool_tr rfl hc39)).trans rfl)
          refine WL.loadN (vs := [.slice a8 n9 c10, .int .i64 x7.Rule.Kind, .int .i64 x7.Rule.Columns, .int .i64 x7.Rule.Faulty]) hs 0 rfl TI26 h31_9 rfl rfl ?_ (hg := (wanted_of rfl rfl (bool_tr rfl hc39)).trans rfl)
          obtain ⟨x40, hxx40, hf⟩ := bindE hf
          refine WL.callL (vs := [.agg ([.slice a8 n9 c10, .int .i64 x7.Rule.Kind, .int .i64 x7.Rule.Columns, .int .i64 x7.Rule.Faulty] : List Value).toArray]) hs FN25 ⟨rfl, trivial⟩ (quorum_Overlap.calls (x1 := (⟨x7.Members, (⟨x7.Rule.Kind, x7.Rule.Columns, x7.Rule.Faulty⟩ : api_Rule)⟩ : api_View)) hxx40 (V_agg (show t_api_View.R (fun _ => True) _ (⟨x7.Members, (⟨x7.Rule.Kind, x7.Rule.Columns, x7.Rule.Faulty⟩ : api_Rule)⟩ : api_View) [.slice a8 n9 c10, .int .i64 x7.Rule.Kind, .int .i64 x7.Rule.Columns, .int .i64 x7.Rule.Faulty] from ⟨[.slice a8 n9 c10], [.int .i64 x7.Rule.Kind, .int .i64 x7.Rule.Columns, .int .i64 x7.Rule.Faulty], rfl, (R_one (hs.ownT 1 rfl)), ⟨[.int .i64 x7.Rule.Kind], [.int .i64 x7.Rule.Columns, .int .i64 x7.Rule.Faulty], rfl, rfl, ⟨[.int .i64 x7.Rule.Columns], [.int .i64 x7.Rule.Faulty], rfl, rfl, rfl⟩⟩⟩) rfl)) ?_ (hg := (wanted_of rfl rfl (bool_tr rfl hc39)).trans rfl)
          rintro _ w hs
          refine WL.bin (v := .bool (decide (x40 ≤ x32))) rfl rfl (ib_geq _ _ _) ?_ (hg := (wanted_of rfl rfl (bool_tr rfl hc39)).trans rfl)
          refine WL.pickT (v := .bool (decide (x40 ≤ x32))) (bool_tr rfl hc39) rfl ?_
          refine WL.move (v := .bool (decide (x40 ≤ x32))) rfl ?_
          rcases iteE hf with ⟨hc41, hf⟩ | ⟨hc41, hf⟩
          · obtain ⟨x42, hxx42, hf⟩ := bindE hf
            refine WL.call (vs := []) hs FN11 trivial (fun ok hA => eslaw04_awake.calls hxx42) ?_ (hg := (wanted_of rfl rfl (bool_tr rfl hc41)).trans rfl)
            rintro _ w hs
            refine WL.pickT (v := .bool x42) (bool_tr rfl hc41) rfl ?_
            refine WL.assign (v := .bool x42) rfl ?_
            refine WL.nil ?_
            exact Jk37 x42 _ _ rfl ((hs.mask []).pick []) hf
          · refine WL.pass ((wanted_of rfl rfl (bool_tr rfl hc41)).trans rfl) rfl ?_
            refine WL.pickF (v := .bool false) (bool_tr rfl hc41) rfl ?_
            refine WL.assign (v := .bool false) rfl ?_
            refine WL.nil ?_
            exact Jk37 false _ _ rfl ((hs.mask []).pick []) hf
        · refine WL.pass ((wanted_of rfl rfl (bool_tr rfl hc39)).trans rfl) rfl ?_
          refine WL.pass ((wanted_of rfl rfl (bool_tr rfl hc39)).trans rfl) rfl ?_
          refine WL.pass ((wanted_of rfl rfl (bool_tr rfl hc39)).trans rfl) rfl ?_
          refine WL.pass ((wanted_of rfl rfl (bool_tr rfl hc39)).trans rfl) rfl ?_
          refine WL.pickF (v := .bool false) (bool_tr rfl hc39) rfl ?_
          refine WL.move (v := .bool false) rfl ?_
          refine WL.pass ((wanted_of rfl rfl rfl).trans rfl) rfl ?_
          refine WL.pickF (v := .bool false) rfl rfl ?_
          refine WL.assign (v := .bool false) rfl ?_
          refine WL.nil ?_
          exact Jk37 false _ _ rfl ((hs.mask []).pick []) hf
      refine W.seqK fun K43 hK43 => ?_
      refine W.region ?_
      refine WL.assign (v := .int .i64 0) rfl ?_
      refine WL.nil ?_
      refine hK43 _ _ ?_
      refine W.block ?_
      obtain ⟨bs47, hbs47, hfs47⟩ := bindE hf
      refine W.loop hbs47 (fun s ρ w => match s with | (x45, x46) => ρ 9 = .pointer (some ⟨g11, 0, none⟩) ∧ ρ 10 = .slice a14 n15 c16 ∧ ρ 11 = .slice a18 n19 c20 ∧ ρ 12 = .int .i64 x45 ∧ ρ 13 = .int .i64 x46 ∧ St ok (bz w0) w [] [own (tInt .i64) 3 (.slice a18 n19 c20) x17, own (tInt .i64) 3 (.slice a14 n15 c16) x13, blk g11 26 [.slice a8 n9 c10, .int .i64 x7.Rule.Kind, .int .i64 x7.Rule.Columns, .int .i64 x7.Rule.Faulty], own t_api_Member 44 (.slice a8 n9 c10) x7.Members]) ⟨h23_9, h23_10, h23_11, rfl, rfl, (hs.mask [true, true, true, true]).pick []⟩ ?_
      intro s ρ w os47 hI hf hbbs47
      obtain ⟨x45, x46⟩ := s
      obtain ⟨h44_9, h44_10, h44_11, h44_12, h44_13, hs⟩ := hI
      unfold eslaw04_QuorumIntersect.l1 at hf
      refine W.seqK fun K48 hK48 => ?_
      refine W.seqK fun K49 hK49 => ?_
      refine W.region ?_
      refine WL.move (v := .int .i64 x46) h44_13 ?_
      refine WL.fieldAddr (m := 0) h44_9 FA26_0 rfl ?_
      refine WL.load1 (v := .slice a8 n9 c10) hs 2 rfl TI24 rfl rfl ?_
      refine WL.len (v := .slice a8 n9 c10) rfl (len_own hs 3 rfl UN24) ?_
      refine WL.bin (v := .bool (decide (x46 < ((x7.Members).length : Int)))) rfl rfl (ib_lss _ _ _) ?_
      refine WL.nil ?_
      refine hK49 _ _ ?_
      rcases iteE hf with ⟨hc50, hf⟩ | ⟨hc50, hf⟩
      · refine W.cond_true (bool_tr rfl hc50) ?_
        refine W.skip ?_
        refine hK48 _ _ ?_
        refine W.seqK fun K51 hK51 => ?_
        have Jk54 : ∀ (x53 : Int) (ρ : Env) (w : World), ρ 9 = .pointer (some ⟨g11, 0, none⟩) → ρ 10 = .slice a14 n15 c16 → ρ 11 = .slice a18 n19 c20 → ρ 12 = .int .i64 x53 → ρ 13 = .int .i64 x46 → St ok (bz w0) w [] [own (tInt .i64) 3 (.slice a18 n19 c20) x17, own (tInt .i64) 3 (.slice a14 n15 c16) x13, blk g11 26 [.slice a8 n9 c10, .int .i64 x7.Rule.Kind, .int .i64 x7.Rule.Columns, .int .i64 x7.Rule.Faulty], own t_api_Member 44 (.slice a8 n9 c10) x7.Members] → eslaw04_QuorumIntersect.j3 x46 x53 = some os47 → K51 ρ w := by
          intro x53 ρ w h52_9 h52_10 h52_11 h52_12 h52_13 hs hf
          refine hK51 _ _ ?_
          unfold eslaw04_QuorumIntersect.j3 at hf
          refine W.region ?_
          refine WL.move (v := .int .i64 x46) h52_13 ?_
          obtain ⟨x55, ex55, hf⟩ := letE hf
          refine WL.bin (v := .int .i64 x55) rfl rfl (ib_as ex55 (ib_add _ _ _)) ?_
          refine WL.assign (v := .int .i64 x55) rfl ?_
          refine WL.nil ?_
          exact ⟨_, (Option.some.inj hf).symm, h52_9, h52_10, h52_11, h52_12, rfl, (hs.mask [true, true, true, true]).pick []⟩
        refine W.block ?_
        refine W.seqK fun K56 hK56 => ?_
        have Jk59 : ∀ (x58 : Bool) (ρ : Env) (w : World), ρ 9 = .pointer (some ⟨g11, 0, none⟩) → ρ 10 = .slice a14 n15 c16 → ρ 11 = .slice a18 n19 c20 → ρ 12 = .int .i64 x45 → ρ 13 = .int .i64 x46 → ρ 56 = .bool x58 → St ok (bz w0) w [] [own (tInt .i64) 3 (.slice a18 n19 c20) x17, own (tInt .i64) 3 (.slice a14 n15 c16) x13, blk g11 26 [.slice a8 n9 c10, .int .i64 x7.Rule.Kind, .int .i64 x7.Rule.Columns, .int .i64 x7.Rule.Faulty], own t_api_Member 44 (.slice a8 n9 c10) x7.Members] → eslaw04_QuorumIntersect.j4 x45 x46 x58 = some os47 → K56 ρ w := by
          intro x58 ρ w h57_9 h57_10 h57_11 h57_12 h57_13 h57_56 hs hf
          refine hK56 _ _ ?_
          unfold eslaw04_QuorumIntersect.j4 at hf
          rcases iteE hf with ⟨hc60, hf⟩ | ⟨hc60, hf⟩
          · refine W.cond_true (bool_tr h57_56 hc60) ?_
            refine W.region ?_
            refine WL.move (v := .int .i64 x45) h57_12 ?_
            obtain ⟨x61, ex61, hf⟩ := letE hf
            refine WL.bin (v := .int .i64 x61) rfl rfl (ib_as ex61 (ib_add _ _ _)) ?_
            refine WL.assign (v := .int .i64 x61) rfl ?_
            refine WL.nil ?_
            exact Jk54 x61 _ _ h57_9 h57_10 h57_11 rfl h57_13 ((hs.mask [true, true, true, true]).pick []) hf
          · refine W.cond_false (bool_tr h57_56 hc60) ?_
            refine W.skip ?_
            exact Jk54 x45 _ _ h57_9 h57_10 h57_11 h57_12 h57_13 ((hs.mask [true, true, true, true]).pick []) hf
        refine W.region ?_
        refine WL.move (v := .slice a14 n15 c16) h44_10 ?_
        refine WL.fieldAddr (m := 0) h44_9 FA26_0 rfl ?_
        refine WL.load1 (v := .slice a8 n9 c10) hs 2 rfl TI24 rfl rfl ?_
        refine WL.move (v := .int .i64 x46) h44_13 ?_
        obtain ⟨x62, hxx62, hf⟩ := bindE hf
        refine WL.indexAddrO hs 3 rfl UN24 TI44 rfl rfl hxx62 (fun ad63 hatad63 => ?_)
        refine WL.fieldAddrO (OwnAt.f hatad63) rfl FA44_0 rfl (fun ad64 hatad64 => ?_)
        refine WL.loadOF (z := x62.Server) F_api_Member_Server hs 3 rfl TI3 (.inr rfl) hatad64 hxx62 rfl rfl (fun v65 hs => ?_)
        obtain rfl := hs.int 0 rfl
        obtain ⟨x66, hxx66, hf⟩ := bindE hf
        refine WL.callL (vs := [.slice a14 x13.length c16, .int .i64 x62.Server]) hs FN23 ⟨(Eq.trans rfl (sl_len (hs.ownLen 1 rfl))), ⟨rfl, trivial⟩⟩ (esref06_In.calls (x1 := x13) (x4 := x62.Server) hxx66 (hs.ownN 1 rfl)) ?_
        rintro _ w hs
        refine WL.move (v := .bool x66) rfl ?_
        rcases iteE hf with ⟨hc67, hf⟩ | ⟨hc67, hf⟩
        · refine WL.move (v := .slice a18 n19 c20) h44_11 ?_ (hg := (wanted_of rfl rfl (bool_tr rfl hc67)).trans rfl)
          refine WL.fieldAddr (m := 0) h44_9 FA26_0 rfl ?_ (hg := (wanted_of rfl rfl (bool_tr rfl hc67)).trans rfl)
          refine WL.load1 (v := .slice a8 n9 c10) hs 2 rfl TI24 rfl rfl ?_ (hg := (wanted_of rfl rfl (bool_tr rfl hc67)).trans rfl)
          refine WL.move (v := .int .i64 x46) h44_13 ?_ (hg := (wanted_of rfl rfl (bool_tr rfl hc67)).trans rfl)
          obtain ⟨x68, hxx68, hf⟩ := bindE hf
          refine WL.indexAddrO hs 3 rfl UN24 TI44 rfl rfl hxx68 (fun ad69 hatad69 => ?_) (hg := (wanted_of rfl rfl (bool_tr rfl hc67)).trans rfl)
          refine WL.fieldAddrO (OwnAt.f hatad69) rfl FA44_0 rfl (fun ad70 hatad70 => ?_) (hg := (wanted_of rfl rfl (bool_tr rfl hc67)).trans rfl)
          refine WL.loadOF (z := x68.Server) F_api_Member_Server hs 3 rfl TI3 (.inr rfl) hatad70 hxx68 rfl rfl (fun v71 hs => ?_) (hg := (wanted_of rfl rfl (bool_tr rfl hc67)).trans rfl)
          obtain rfl := hs.int 0 rfl
          obtain ⟨x72, hxx72, hf⟩ := bindE hf
          refine WL.callL (vs := [.slice a18 x17.length c20, .int .i64 x68.Server]) hs FN23 ⟨(Eq.trans rfl (sl_len (hs.ownLen 0 rfl))), ⟨rfl, trivial⟩⟩ (esref06_In.calls (x1 := x17) (x4 := x68.Server) hxx72 (hs.ownN 0 rfl)) ?_ (hg := (wanted_of rfl rfl (bool_tr rfl hc67)).trans rfl)
          rintro _ w hs
          refine WL.pickT (v := .bool x72) (bool_tr rfl hc67) rfl ?_
          refine WL.nil ?_
          exact Jk59 x72 _ _ h44_9 h44_10 h44_11 h44_12 h44_13 rfl ((hs.mask [true, true, true, true]).pick []) hf
        · refine WL.pass ((wanted_of rfl rfl (bool_tr rfl hc67)).trans rfl) rfl ?_
          refine WL.pass ((wanted_of rfl rfl (bool_tr rfl hc67)).trans rfl) rfl ?_
          refine WL.pass ((wanted_of rfl rfl (bool_tr rfl hc67)).trans rfl) rfl ?_
          refine WL.pass ((wanted_of rfl rfl (bool_tr rfl hc67)).trans rfl) rfl ?_
          refine WL.pass ((wanted_of rfl rfl (bool_tr rfl hc67)).trans rfl) rfl ?_
          refine WL.pass ((wanted_of rfl rfl (bool_tr rfl hc67)).trans rfl) rfl ?_
          refine WL.pass ((wanted_of rfl rfl (bool_tr rfl hc67)).trans rfl) rfl ?_
          refine WL.pass ((wanted_of rfl rfl (bool_tr rfl hc67)).trans rfl) rfl ?_
          refine WL.pickF (v := .bool false) (bool_tr rfl hc67) rfl ?_
          refine WL.nil ?_
          exact Jk59 false _ _ h44_9 h44_10 h44_11 h44_12 h44_13 rfl ((hs.mask [true, true, true, true]).pick []) hf
      · refine W.cond_false (bool_tr rfl hc50) ?_
        refine W.exit ?_
        have hr := Option.some.inj hf; subst hr
        have hr := hbbs47 _ rfl; subst hr
        have hf := hfs47
        exact Jk33 x45 _ _ h44_9 h44_12 ((hs.mask [false, false, true, true]).pick []) hf
  refine W.region ?_
  refine WL.loadN (vs := [.slice a8 n9 c10, .int .i64 x7.Rule.Kind, .int .i64 x7.Rule.Columns, .int .i64 x7.Rule.Faulty]) hs 2 rfl TI26 rfl rfl rfl ?_
  refine WL.move (v := .slice a14 n15 c16) rfl ?_
  obtain ⟨x74, hxx74, hf⟩ := bindE hf
  refine WL.callL (vs := [.agg ([.slice a8 n9 c10, .int .i64 x7.Rule.Kind, .int .i64 x7.Rule.Columns, .int .i64 x7.Rule.Faulty] : List Value).toArray, .slice a14 x13.length c16]) hs FN18 ⟨rfl, ⟨(Eq.trans rfl (sl_len (hs.ownLen 1 rfl))), trivial⟩⟩ (quorum_IsQuorum.calls (x1 := (⟨x7.Members, (⟨x7.Rule.Kind, x7.Rule.Columns, x7.Rule.Faulty⟩ : api_Rule)⟩ : api_View)) (x5 := x13) hxx74 (V_agg (show t_api_View.R (fun _ => True) _ (⟨x7.Members, (⟨x7.Rule.Kind, x7.Rule.Columns, x7.Rule.Faulty⟩ : api_Rule)⟩ : api_View) [.slice a8 n9 c10, .int .i64 x7.Rule.Kind, .int .i64 x7.Rule.Columns, .int .i64 x7.Rule.Faulty] from ⟨[.slice a8 n9 c10], [.int .i64 x7.Rule.Kind, .int .i64 x7.Rule.Columns, .int .i64 x7.Rule.Faulty], rfl, (R_one (hs.ownT 3 rfl)), ⟨[.int .i64 x7.Rule.Kind], [.int .i64 x7.Rule.Columns, .int .i64 x7.Rule.Faulty], rfl, rfl, ⟨[.int .i64 x7.Rule.Columns], [.int .i64 x7.Rule.Faulty], rfl, rfl, rfl⟩⟩⟩) rfl) (hs.ownN 1 rfl)) ?_
  rintro _ w hs
  refine WL.not rfl ?_
  refine WL.move (v := .bool (!x74)) rfl ?_
  rcases iteE hf with ⟨hc75, hf⟩ | ⟨hc75, hf⟩
  · refine WL.pass ((wanted_of rfl rfl (bool_tr rfl hc75)).trans rfl) rfl ?_
    refine WL.pass ((wanted_of rfl rfl (bool_tr rfl hc75)).trans rfl) rfl ?_
    refine WL.pass ((wanted_of rfl rfl (bool_tr rfl hc75)).trans rfl) rfl ?_
    refine WL.pass ((wanted_of rfl rfl (bool_tr rfl hc75)).trans rfl) rfl ?_
    refine WL.pickT (v := .bool true) (bool_tr rfl hc75) rfl ?_
    refine WL.nil ?_
    exact Jk25 true _ _ rfl rfl rfl rfl ((hs.mask [true, true, true, true]).pick []) hf
  · refine WL.loadN (vs := [.slice a8 n9 c10, .int .i64 x7.Rule.Kind, .int .i64 x7.Rule.Columns, .int .i64 x7.Rule.Faulty]) hs 2 rfl TI26 rfl rfl rfl ?_ (hg := (wanted_of rfl rfl (bool_tr rfl hc75)).trans rfl)
    refine WL.move (v := .slice a18 n19 c20) rfl ?_ (hg := (wanted_of rfl rfl (bool_tr rfl hc75)).trans rfl)
    obtain ⟨x76, hxx76, hf⟩ := bindE hf
    refine WL.callL (vs := [.agg ([.slice a8 n9 c10, .int .i64 x7.Rule.Kind, .int .i64 x7.Rule.Columns, .int .i64 x7.Rule.Faulty] : List Value).toArray, .slice a18 x17.length c20]) hs FN18 ⟨rfl, ⟨(Eq.trans rfl (sl_len (hs.ownLen 0 rfl))), trivial⟩⟩ (quorum_IsQuorum.calls (x1 := (⟨x7.Members, (⟨x7.Rule.Kind, x7.Rule.Columns, x7.Rule.Faulty⟩ : api_Rule)⟩ : api_View)) (x5 := x17) hxx76 (V_agg (show t_api_View.R (fun _ => True) _ (⟨x7.Members, (⟨x7.Rule.Kind, x7.Rule.Columns, x7.Rule.Faulty⟩ : api_Rule)⟩ : api_View) [.slice a8 n9 c10, .int .i64 x7.Rule.Kind, .int .i64 x7.Rule.Columns, .int .i64 x7.Rule.Faulty] from ⟨[.slice a8 n9 c10], [.int .i64 x7.Rule.Kind, .int .i64 x7.Rule.Columns, .int .i64 x7.Rule.Faulty], rfl, (R_one (hs.ownT 3 rfl)), ⟨[.int .i64 x7.Rule.Kind], [.int .i64 x7.Rule.Columns, .int .i64 x7.Rule.Faulty], rfl, rfl, ⟨[.int .i64 x7.Rule.Columns], [.int .i64 x7.Rule.Faulty], rfl, rfl, rfl⟩⟩⟩) rfl) (hs.ownN 0 rfl)) ?_ (hg := (wanted_of rfl rfl (bool_tr rfl hc75)).trans rfl)
    rintro _ w hs
    refine WL.not rfl ?_ (hg := (wanted_of rfl rfl (bool_tr rfl hc75)).trans rfl)
    refine WL.pickF (v := .bool (!x76)) (bool_tr rfl hc75) rfl ?_
    refine WL.nil ?_
    exact Jk25 (!x76) _ _ rfl rfl rfl rfl ((hs.mask [true, true, true, true]).pick []) hf
/-! elasticstore/elasticstoreref06.Overlap: function 26 -/
theorem esref06_Overlap.calls {ok : Nat → Prop} {w0 : World} {x1 : api_View} {v2 : Value} {r : Int} (hf : esref06_Overlap x1 = some r) (i0 : (vl t_api_View x1 v2).holds ok w0) :
    Calls Try.prog 26 #[v2] w0 fun e w' => ∃ v, e = .returned v ∧ ∃ y : Unit, v = .int .i64 r ∧ St ok (bz w0) w' [] [] := by
  unfold esref06_Overlap at hf
  refine calls_of_W (fn := Try.f26) (N := 58) Try.func26 rfl Try.ntmps26 rfl ?_
  have hs : St ok (bz w0) w0 [vl t_api_View x1 v2] [] := St.init (All.cons i0 All.nil)
  clear i0
  obtain ⟨cs3, hl4, rfl⟩ := hs.aggv (n := 4) 0 rfl rfl rfl
  refine W.seqK fun K5 hK5 => ?_
  refine W.region ?_
  refine WL.box (vs := cs3) hs rfl rfl (fun g6 w hs => ?_)
  refine WL.assign (v := .int .i64 0) rfl ?_
  refine WL.nil ?_
  refine hK5 _ _ ?_
  refine W.seqK fun K7 hK7 => ?_
  refine W.region ?_
  refine WL.loadAll hs 0 rfl TI26 rfl hl4 ?_
  obtain ⟨x8, hxx8, hf⟩ := bindE hf
  refine WL.call (vs := [.agg cs3.toArray]) hs FN21 ⟨rfl, trivial⟩ (fun ok hA => esref06_Minimal.calls (x1 := x1) hxx8 (hA.get 0 rfl)) ?_
  rintro ⟨a9, c10⟩ w hs
  refine WL.assign (v := .slice a9 x8.length c10) rfl ?_
  refine WL.nil ?_
  refine hK7 _ _ ?_
  refine W.seqK fun K11 hK11 => ?_
  refine W.seqK fun K12 hK12 => ?_
  refine W.region ?_
  refine WL.move (v := .slice a9 x8.length c10) rfl ?_
  refine WL.len (v := .slice a9 x8.length c10) rfl (len_slice UN36) ?_
  refine WL.bin (v := .bool ((x8.length : Int) == 0)) rfl rfl (ib_eql _ _ _) ?_
  refine WL.nil ?_
  refine hK12 _ _ ?_
  rcases iteE hf with ⟨hc13, hf⟩ | ⟨hc13, hf⟩
  · refine W.cond_true (bool_tr rfl hc13) ?_
    refine W.seqK fun K14 hK14 => ?_
    refine W.region ?_
    refine WL.assign (v := .int .i64 0) rfl ?_
    refine WL.nil ?_
    refine hK14 _ _ ?_
    refine W.ret ?_
    have hr := Option.some.inj hf; subst hr
    exact ⟨_, resOk_one rfl rfl, (), rfl, (hs.mask []).pick []⟩
  · refine W.cond_false (bool_tr rfl hc13) ?_
    refine W.skip ?_
    refine hK11 _ _ ?_
    refine W.seqK fun K15 hK15 => ?_
    refine W.region ?_
    refine WL.move (v := .slice a9 x8.length c10) rfl ?_
    obtain ⟨x16, hxx16, hf⟩ := bindE hf
    refine WL.indexAddr hs 0 rfl UN36 TI33 rfl rfl hxx16 (fun ad17 hs => ?_)
    refine WL.loadP hs 0 rfl TI33 (.inr rfl) rfl (fun v18 hs => ?_)
    obtain ⟨a19, c20, rfl⟩ := hs.slice 0 rfl
    refine WL.len (v := .slice a19 x16.length c20) rfl (len_slice UN33) ?_
    refine WL.assign (v := .int .i64 (x16.length : Int)) rfl ?_
    refine WL.nil ?_
    refine hK15 _ _ ?_
    refine W.seqK fun K21 hK21 => ?_
    have Jk24 : ∀ (x23 : Int) (ρ : Env) (w : World), ρ 4 = .int .i64 x23 → St ok (bz w0) w [] [] → esref06_Overlap.j1 x23 = some r → K21 ρ w := by
      intro x23 ρ w h22_4 hs hf
      refine hK21 _ _ ?_
      unfold esref06_Overlap.j1 at hf
      refine W.seqK fun K25 hK25 => ?_
      refine W.region ?_
      refine WL.move (v := .int .i64 x23) h22_4 ?_
      refine WL.assign (v := .int .i64 x23) rfl ?_
      refine WL.nil ?_
      refine hK25 _ _ ?_
      refine W.ret ?_
      have hr := Option.some.inj hf; subst hr
      exact ⟨_, resOk_one rfl rfl, (), rfl, (hs.mask []).pick []⟩
    refine W.seqK fun K26 hK26 => ?_
    refine W.region ?_
    refine WL.assign (v := .int .i64 0) rfl ?_
    refine WL.nil ?_
    refine hK26 _ _ ?_
    refine W.block ?_
    obtain ⟨bs30, hbs30, hfs30⟩ := bindE hf
    refine W.loop hbs30 (fun s ρ w => match s with | (x28, x29) => ρ 3 = .slice a9 x8.length c10 ∧ ρ 4 = .int .i64 x28 ∧ ρ 5 = .int .i64 x29 ∧ St ok (bz w0) w [vl (tSlice (tSlice (tInt .i64))) x8 (.slice a9 x8.length c10)] []) ⟨rfl, rfl, rfl, (hs.mask []).pick [2]⟩ ?_
    intro s ρ w os30 hI hf hbbs30
    obtain ⟨x28, x29⟩ := s
    obtain ⟨h27_3, h27_4, h27_5, hs⟩ := hI
    unfold esref06_Overlap.l3 at hf
    refine W.seqK fun K31 hK31 => ?_
    refine W.seqK fun K32 hK32 => ?_
    refine W.region ?_
    refine WL.move (v := .int .i64 x29) h27_5 ?_
    refine WL.move (v := .slice a9 x8.length c10) h27_3 ?_
    refine WL.len (v := .slice a9 x8.length c10) rfl (len_slice UN36) ?_
    refine WL.bin (v := .bool (decide (x29 < (x8.length : Int)))) rfl rfl (ib_lss _ _ _) ?_
    refine WL.nil ?_
    refine hK32 _ _ ?_
    rcases iteE hf with ⟨hc33, hf⟩ | ⟨hc33, hf⟩
    · refine W.cond_true (bool_tr rfl hc33) ?_
      refine W.skip ?_
      refine hK31 _ _ ?_
      refine W.seqK fun K34 hK34 => ?_
      have Jk37 : ∀ (x36 : Int) (ρ : Env) (w : World), ρ 3 = .slice a9 x8.length c10 → ρ 4 = .int .i64 x36 → ρ 5 = .int .i64 x29 → St ok (bz w0) w [vl (tSlice (tSlice (tInt .i64))) x8 (.slice a9 x8.length c10)] [] → esref06_Overlap.j2 x29 x36 = some os30 → K34 ρ w := by
        intro x36 ρ w h35_3 h35_4 h35_5 hs hf
        refine hK34 _ _ ?_
        unfold esref06_Overlap.j2 at hf
        refine W.region ?_
        refine WL.move (v := .int .i64 x29) h35_5 ?_
        obtain ⟨x38, ex38, hf⟩ := letE hf
        refine WL.bin (v := .int .i64 x38) rfl rfl (ib_as ex38 (ib_add _ _ _)) ?_
        refine WL.assign (v := .int .i64 x38) rfl ?_
        refine WL.nil ?_
        exact ⟨_, (Option.some.inj hf).symm, h35_3, h35_4, rfl, (hs.mask []).pick [0]⟩
      refine W.block ?_
      refine W.seqK fun K39 hK39 => ?_
      refine W.region ?_
      refine WL.move (v := .int .i64 x29) h27_5 ?_
      refine WL.assign (v := .int .i64 x29) rfl ?_
      refine WL.nil ?_
      refine hK39 _ _ ?_
      refine W.block ?_
      obtain ⟨bs43, hbs43, hfs43⟩ := bindE hf
      refine W.loop hbs43 (fun s ρ w => match s with | (x41, x42) => ρ 3 = .slice a9 x8.length c10 ∧ ρ 4 = .int .i64 x41 ∧ ρ 5 = .int .i64 x29 ∧ ρ 6 = .int .i64 x42 ∧ St ok (bz w0) w [vl (tSlice (tSlice (tInt .i64))) x8 (.slice a9 x8.length c10)] []) ⟨h27_3, h27_4, h27_5, rfl, (hs.mask []).pick [0]⟩ ?_
      intro s ρ w os43 hI hf hbbs43
      obtain ⟨x41, x42⟩ := s
      obtain ⟨h40_3, h40_4, h40_5, h40_6, hs⟩ := hI
      unfold esref06_Overlap.l2 at hf
      refine W.seqK fun K44 hK44 => ?_
      refine W.seqK fun K45 hK45 => ?_
      refine W.region ?_
      refine WL.move (v := .int .i64 x42) h40_6 ?_
      refine WL.move (v := .slice a9 x8.length c10) h40_3 ?_
      refine WL.len (v := .slice a9 x8.length c10) rfl (len_slice UN36) ?_
      refine WL.bin (v := .bool (decide (x42 < (x8.length : Int)))) rfl rfl (ib_lss _ _ _) ?_
      refine WL.nil ?_
      refine hK45 _ _ ?_
      rcases iteE hf with ⟨hc46, hf⟩ | ⟨hc46, hf⟩
      · refine W.cond_true (bool_tr rfl hc46) ?_
        refine W.skip ?_
        refine hK44 _ _ ?_
        refine W.seqK fun K47 hK47 => ?_
        have Jk50 : ∀ (x49 : Int) (ρ : Env) (w : World), ρ 3 = .slice a9 x8.length c10 → ρ 4 = .int .i64 x49 → ρ 5 = .int .i64 x29 → ρ 6 = .int .i64 x42 → St ok (bz w0) w [vl (tSlice (tSlice (tInt .i64))) x8 (.slice a9 x8.length c10)] [] → esref06_Overlap.j3 x42 x49 = some os43 → K47 ρ w := by
          intro x49 ρ w h48_3 h48_4 h48_5 h48_6 hs hf
          refine hK47 _ _ ?_
          unfold esref06_Overlap.j3 at hf
          refine W.region ?_
          refine WL.move (v := .int .i64 x42) h48_6 ?_
          obtain ⟨x51, ex51, hf⟩ := letE hf
          refine WL.bin (v := .int .i64 x51) rfl rfl (ib_as ex51 (ib_add _ _ _)) ?_
          refine WL.assign (v := .int .i64 x51) rfl ?_
          refine WL.nil ?_
          exact ⟨_, (Option.some.inj hf).symm, h48_3, h48_4, h48_5, rfl, (hs.mask []).pick [0]⟩
        refine W.block ?_
        refine W.seqK fun K52 hK52 => ?_
        refine W.region ?_
        refine WL.assign (v := .int .i64 0) rfl ?_
        refine WL.nil ?_
        refine hK52 _ _ ?_
        refine W.seqK fun K53 hK53 => ?_
        have Jk56 : ∀ (x55 : Int) (ρ : Env) (w : World), ρ 3 = .slice a9 x8.length c10 → ρ 4 = .int .i64 x41 → ρ 5 = .int .i64 x29 → ρ 6 = .int .i64 x42 → ρ 7 = .int .i64 x55 → St ok (bz w0) w [vl (tSlice (tSlice (tInt .i64))) x8 (.slice a9 x8.length c10)] [] → esref06_Overlap.j4 x41 x42 x55 = some os43 → K53 ρ w := by
          intro x55 ρ w h54_3 h54_4 h54_5 h54_6 h54_7 hs hf
          refine hK53 _ _ ?_
          unfold esref06_Overlap.j4 at hf
          refine W.region ?_
          refine WL.move (v := .int .i64 x41) h54_4 ?_
          refine WL.move (v := .int .i64 x55) h54_7 ?_
          refine WL.min rfl rfl ?_
          refine WL.assign (v := .int .i64 (minI x41 x55)) rfl ?_
          refine WL.nil ?_
          exact Jk50 (minI x41 x55) _ _ h54_3 rfl h54_5 h54_6 ((hs.mask []).pick [0]) hf
        refine W.seqK fun K57 hK57 => ?_
        refine W.region ?_
        refine WL.assign (v := .int .i64 0) rfl ?_
        refine WL.nil ?_
        refine hK57 _ _ ?_
        refine W.block ?_
        obtain ⟨bs61, hbs61, hfs61⟩ := bindE hf
        refine W.loop hbs61 (fun s ρ w => match s with | (x59, x60) => ρ 3 = .slice a9 x8.length c10 ∧ ρ 4 = .int .i64 x41 ∧ ρ 5 = .int .i64 x29 ∧ ρ 6 = .int .i64 x42 ∧ ρ 7 = .int .i64 x59 ∧ ρ 8 = .int .i64 x60 ∧ St ok (bz w0) w [vl (tSlice (tSlice (tInt .i64))) x8 (.slice a9 x8.length c10)] []) ⟨h40_3, h40_4, h40_5, h40_6, rfl, rfl, (hs.mask []).pick [0]⟩ ?_
        intro s ρ w os61 hI hf hbbs61
        obtain ⟨x59, x60⟩ := s
        obtain ⟨h58_3, h58_4, h58_5, h58_6, h58_7, h58_8, hs⟩ := hI
        unfold esref06_Overlap.l1 at hf
        refine W.seqK fun K62 hK62 => ?_
        refine W.seqK fun K63 hK63 => ?_
        refine W.region ?_
        refine WL.move (v := .int .i64 x60) h58_8 ?_
        refine WL.move (v := .slice a9 x8.length c10) h58_3 ?_
        refine WL.move (v := .int .i64 x29) h58_5 ?_
        obtain ⟨x64, hxx64, hf⟩ := bindE hf
        refine WL.indexAddr hs 0 rfl UN36 TI33 rfl rfl hxx64 (fun ad65 hs => ?_)
        refine WL.loadP hs 0 rfl TI33 (.inr rfl) rfl (fun v66 hs => ?_)
        obtain ⟨a67, c68, rfl⟩ := hs.slice 0 rfl
        refine WL.len (v := .slice a67 x64.length c68) rfl (len_slice UN33) ?_
        refine WL.bin (v := .bool (decide (x60 < (x64.length : Int)))) rfl rfl (ib_lss _ _ _) ?_
        refine WL.nil ?_
        refine hK63 _ _ ?_
        rcases iteE hf with ⟨hc69, hf⟩ | ⟨hc69, hf⟩
        · refine W.cond_true (bool_tr rfl hc69) ?_
          refine W.skip ?_
          refine hK62 _ _ ?_
          refine W.seqK fun K70 hK70 => ?_
          have Jk73 : ∀ (x72 : Int) (ρ : Env) (w : World), ρ 3 = .slice a9 x8.length c10 → ρ 4 = .int .i64 x41 → ρ 5 = .int .i64 x29 → ρ 6 = .int .i64 x42 → ρ 7 = .int .i64 x72 → ρ 8 = .int .i64 x60 → St ok (bz w0) w [vl (tSlice (tSlice (tInt .i64))) x8 (.slice a9 x8.length c10)] [] → esref06_Overlap.j5 x60 x72 = some os61 → K70 ρ w := by
            intro x72 ρ w h71_3 h71_4 h71_5 h71_6 h71_7 h71_8 hs hf
            refine hK70 _ _ ?_
            unfold esref06_Overlap.j5 at hf
            refine W.region ?_
            refine WL.move (v := .int .i64 x60) h71_8 ?_
            obtain ⟨x74, ex74, hf⟩ := letE hf
            refine WL.bin (v := .int .i64 x74) rfl rfl (ib_as ex74 (ib_add _ _ _)) ?_
            refine WL.assign (v := .int .i64 x74) rfl ?_
            refine WL.nil ?_
            exact ⟨_, (Option.some.inj hf).symm, h71_3, h71_4, h71_5, h71_6, h71_7, rfl, (hs.mask []).pick [0]⟩
          refine W.block ?_
          refine W.seqK fun K75 hK75 => ?_
          obtain ⟨x76, hxx76, hf⟩ := bindE hf
          obtain ⟨x81, hxx81, hf⟩ := bindE hf
          obtain ⟨x86, hxx86, hf⟩ := bindE hf
          obtain ⟨x89, hxx89, hf⟩ := bindE hf
          refine W.any (by kernel_rfl) 12 0 [true, true, true, true, true, true, true, true, true, true, true, true] rfl rfl (poAt [pv (.slice a9 x8.length c10), pv (.int .i64 x42), pq (fun y : Addr => .pointer (some y)) (fun v => [pl (tSlice (tInt .i64)) x76 (adOf v)]) (fun v => []), pq (fun y : (Option Addr × Nat) => .slice y.1 x76.length y.2) (fun v => [vl (tSlice (tInt .i64)) x76 v]) (fun v => []), pv (.slice a9 x8.length c10), pv (.int .i64 x29), pq (fun y : Addr => .pointer (some y)) (fun v => [pl (tSlice (tInt .i64)) x81 (adOf v)]) (fun v => []), pq (fun y : (Option Addr × Nat) => .slice y.1 x81.length y.2) (fun v => [vl (tSlice (tInt .i64)) x81 v]) (fun v => []), pv (.int .i64 x60), pq (fun y : Addr => .pointer (some y)) (fun v => [pl (tInt .i64) x86 (adOf v)]) (fun v => []), pv (.int .i64 x86), pv (.bool x89)]) (Λ := []) hs (by kernel_rfl) (by kernel_rfl) (by kernel_rfl) ⟨⟨⟨⟨⟨⟨⟨⟨⟨⟨⟨⟨trivial, ?_⟩, ?_⟩, ?_⟩, ?_⟩, ?_⟩, ?_⟩, ?_⟩, ?_⟩, ?_⟩, ?_⟩, ?_⟩, ?_⟩ ?_
          · intro ρ w Γx Λx hs hu hp
            refine WL.move (v := .slice a9 x8.length c10) ((hu 3 rfl).trans h58_3) ?_
            exact WL.nil ⟨rfl, _, rfl, rfl, hs.cutG 0 0⟩
          · intro ρ w Γx Λx hs hu hp
            refine WL.move (v := .int .i64 x42) ((hu 6 rfl).trans h58_6) ?_
            exact WL.nil ⟨rfl, _, rfl, rfl, hs.cutG 0 0⟩
          · intro ρ w Γx Λx hs hu hp
            have e90 : ρ 40 = .slice a9 x8.length c10 := (hp 0 rfl).1
            have e91 : ρ 41 = .int .i64 x42 := (hp 1 rfl).1
            refine WL.indexAddr hs (Γx.length + 2) (getApp rfl) UN36 TI33 e90 e91 hxx76 (fun ad77 hs => ?_)
            have hs := hs.add (it := pl (tSlice (tInt .i64)) x76 ad77) fun ok hA => hA.get 0 rfl
            exact WL.nil ⟨rfl, _, rfl, ⟨ad77, rfl⟩, hs.cutG 1 1⟩
          · intro ρ w Γx Λx hs hu hp
            obtain ⟨⟨ad92, e93r⟩, hm94⟩ := hp 2 rfl
            have e93 : ρ 42 = .pointer (some ad92) := e93r
            rw [e93r] at hm94
            have hs := hs.memo1 (it := pl (tSlice (tInt .i64)) x76 ad92) (List.mem_append.2 (.inl (hm94 _ (List.mem_of_getElem? (i := 0) rfl))))
            refine WL.loadP hs 0 rfl TI33 (.inr rfl) e93 (fun v78 hs => ?_)
            obtain ⟨a79, c80, rfl⟩ := hs.slice 0 rfl
            have hs := hs.add (it := vl (tSlice (tInt .i64)) x76 (.slice a79 x76.length c80)) fun ok hA => hA.get 0 rfl
            exact WL.nil ⟨rfl, _, rfl, ⟨(a79, c80), rfl⟩, hs.cutG 1 2⟩
          · intro ρ w Γx Λx hs hu hp
            refine WL.move (v := .slice a9 x8.length c10) ((hu 3 rfl).trans h58_3) ?_
            exact WL.nil ⟨rfl, _, rfl, rfl, hs.cutG 0 0⟩
          · intro ρ w Γx Λx hs hu hp
            refine WL.move (v := .int .i64 x29) ((hu 5 rfl).trans h58_5) ?_
            exact WL.nil ⟨rfl, _, rfl, rfl, hs.cutG 0 0⟩
          · intro ρ w Γx Λx hs hu hp
            have e95 : ρ 44 = .slice a9 x8.length c10 := (hp 4 rfl).1
            have e96 : ρ 45 = .int .i64 x29 := (hp 5 rfl).1
            refine WL.indexAddr hs (Γx.length + 2) (getApp rfl) UN36 TI33 e95 e96 hxx81 (fun ad82 hs => ?_)
            have hs := hs.add (it := pl (tSlice (tInt .i64)) x81 ad82) fun ok hA => hA.get 0 rfl
            exact WL.nil ⟨rfl, _, rfl, ⟨ad82, rfl⟩, hs.cutG 1 1⟩
          · intro ρ w Γx Λx hs hu hp
            obtain ⟨⟨ad97, e98r⟩, hm99⟩ := hp 6 rfl
            have e98 : ρ 46 = .pointer (some ad97) := e98r
            rw [e98r] at hm99
            have hs := hs.memo1 (it := pl (tSlice (tInt .i64)) x81 ad97) (List.mem_append.2 (.inl (hm99 _ (List.mem_of_getElem? (i := 0) rfl))))
            refine WL.loadP hs 0 rfl TI33 (.inr rfl) e98 (fun v83 hs => ?_)
            obtain ⟨a84, c85, rfl⟩ := hs.slice 0 rfl
            have hs := hs.add (it := vl (tSlice (tInt .i64)) x81 (.slice a84 x81.length c85)) fun ok hA => hA.get 0 rfl
            exact WL.nil ⟨rfl, _, rfl, ⟨(a84, c85), rfl⟩, hs.cutG 1 2⟩
          · intro ρ w Γx Λx hs hu hp
            refine WL.move (v := .int .i64 x60) ((hu 8 rfl).trans h58_8) ?_
            exact WL.nil ⟨rfl, _, rfl, rfl, hs.cutG 0 0⟩
          · intro ρ w Γx Λx hs hu hp
            obtain ⟨⟨⟨a100, c101⟩, e102r⟩, hm103⟩ := hp 7 rfl
            have e102 : ρ 47 = .slice a100 x81.length c101 := e102r
            rw [e102r] at hm103
            have hs := hs.memo1 (it := vl (tSlice (tInt .i64)) x81 (.slice a100 x81.length c101)) (List.mem_append.2 (.inl (hm103 _ (List.mem_of_getElem? (i := 0) rfl))))
            have e104 : ρ 48 = .int .i64 x60 := (hp 8 rfl).1
            refine WL.indexAddr hs 0 rfl UN33 TI3 e102 e104 hxx86 (fun ad87 hs => ?_)
            have hs := hs.add (it := pl (tInt .i64) x86 ad87) fun ok hA => hA.get 0 rfl
            exact WL.nil ⟨rfl, _, rfl, ⟨ad87, rfl⟩, hs.cutG 1 2⟩
          · intro ρ w Γx Λx hs hu hp
            obtain ⟨⟨ad105, e106r⟩, hm107⟩ := hp 9 rfl
            have e106 : ρ 49 = .pointer (some ad105) := e106r
            rw [e106r] at hm107
            have hs := hs.memo1 (it := pl (tInt .i64) x86 ad105) (List.mem_append.2 (.inl (hm107 _ (List.mem_of_getElem? (i := 0) rfl))))
            refine WL.loadP hs 0 rfl TI3 (.inr rfl) e106 (fun v88 hs => ?_)
            obtain rfl := hs.int 0 rfl
            exact WL.nil ⟨rfl, _, rfl, rfl, hs.cutG 0 2⟩
          · intro ρ w Γx Λx hs hu hp
            obtain ⟨⟨⟨a108, c109⟩, e110r⟩, hm111⟩ := hp 3 rfl
            have e110 : ρ 43 = .slice a108 x76.length c109 := e110r
            rw [e110r] at hm111
            have hs := hs.memo1 (it := vl (tSlice (tInt .i64)) x76 (.slice a108 x76.length c109)) (List.mem_append.2 (.inl (hm111 _ (List.mem_of_getElem? (i := 0) rfl))))
            have e112 : ρ 50 = .int .i64 x86 := (hp 10 rfl).1
            refine WL.call (vs := [.slice a108 x76.length c109, .int .i64 x86]) hs FN23 ⟨e110, ⟨e112, trivial⟩⟩ (fun ok hA => esref06_In.calls (x1 := x76) (x4 := x86) hxx89 (hA.get 0 rfl)) ?_
            rintro _ w hs
            exact WL.nil ⟨rfl, _, rfl, rfl, hs.cutG 0 1⟩
          · intro ρ w hs hu113 hp
            obtain ⟨⟨⟨⟨⟨⟨⟨⟨⟨⟨⟨⟨_, hp0_⟩, hp1_⟩, hp2_⟩, hp3_⟩, hp4_⟩, hp5_⟩, hp6_⟩, hp7_⟩, hp8_⟩, hp9_⟩, hp10_⟩, hp11_⟩ := hp
            have hs : St ok (bz w0) w [pl (tInt .i64) x86 (adOf (ρ 49)), vl (tSlice (tInt .i64)) x81 (ρ 47), pl (tSlice (tInt .i64)) x81 (adOf (ρ 46)), vl (tSlice (tInt .i64)) x76 (ρ 43), pl (tSlice (tInt .i64)) x76 (adOf (ρ 42)), vl (tSlice (tInt .i64)) x64 (.slice a67 x64.length c68), pl (tSlice (tInt .i64)) x64 ad65, vl (tSlice (tSlice (tInt .i64))) x8 (.slice a9 x8.length c10)] [] := hs
            have e114 : ρ 51 = .bool x89 := hp11_
            have e115 : ρ 50 = .int .i64 x86 := hp10_
            obtain ⟨ad116, e117⟩ := hp9_
            have e117 : ρ 49 = .pointer (some ad116) := e117
            try rw [e117] at hs
            have e118 : ρ 48 = .int .i64 x60 := hp8_
            obtain ⟨⟨a119, c120⟩, e121⟩ := hp7_
            have e121 : ρ 47 = .slice a119 x81.length c120 := e121
            try rw [e121] at hs
            obtain ⟨ad122, e123⟩ := hp6_
            have e123 : ρ 46 = .pointer (some ad122) := e123
            try rw [e123] at hs
            have e124 : ρ 45 = .int .i64 x29 := hp5_
            have e125 : ρ 44 = .slice a9 x8.length c10 := hp4_
            obtain ⟨⟨a126, c127⟩, e128⟩ := hp3_
            have e128 : ρ 43 = .slice a126 x76.length c127 := e128
            try rw [e128] at hs
            obtain ⟨ad129, e130⟩ := hp2_
            have e130 : ρ 42 = .pointer (some ad129) := e130
            try rw [e130] at hs
            have e131 : ρ 41 = .int .i64 x42 := hp1_
            have e132 : ρ 40 = .slice a9 x8.length c10 := hp0_
            refine WA.done (by kernel_rfl) ?_
            refine hK75 _ _ ?_
            rcases iteE hf with ⟨hc133, hf⟩ | ⟨hc133, hf⟩
            · refine W.cond_true (bool_tr e114 hc133) ?_
              refine W.region ?_
              refine WL.move (v := .int .i64 x59) ((hu113 7 rfl).trans h58_7) ?_
              obtain ⟨x134, ex134, hf⟩ := letE hf
              refine WL.bin (v := .int .i64 x134) rfl rfl (ib_as ex134 (ib_add _ _ _)) ?_
              refine WL.assign (v := .int .i64 x134) rfl ?_
              refine WL.nil ?_
              exact Jk73 x134 _ _ ((hu113 3 rfl).trans h58_3) ((hu113 4 rfl).trans h58_4) ((hu113 5 rfl).trans h58_5) ((hu113 6 rfl).trans h58_6) rfl ((hu113 8 rfl).trans h58_8) ((hs.mask []).pick [7]) hf
            · refine W.cond_false (bool_tr e114 hc133) ?_
              refine W.skip ?_
              exact Jk73 x59 _ _ ((hu113 3 rfl).trans h58_3) ((hu113 4 rfl).trans h58_4) ((hu113 5 rfl).trans h58_5) ((hu113 6 rfl).trans h58_6) ((hu113 7 rfl).trans h58_7) ((hu113 8 rfl).trans h58_8) ((hs.mask []).pick [7]) hf
        · refine W.cond_false (bool_tr rfl hc69) ?_
          refine W.exit ?_
          have hr := Option.some.inj hf; subst hr
          have hr := hbbs61 _ rfl; subst hr
          have hf := hfs61
          exact Jk56 x59 _ _ h58_3 h58_4 h58_5 h58_6 h58_7 ((hs.mask []).pick [2]) hf
      · refine W.cond_false (bool_tr rfl hc46) ?_
        refine W.exit ?_
        have hr := Option.some.inj hf; subst hr
        have hr := hbbs43 _ rfl; subst hr
        have hf := hfs43
        exact Jk37 x41 _ _ h40_3 h40_4 h40_5 ((hs.mask []).pick [0]) hf
    · refine W.cond_false (bool_tr rfl hc33) ?_
      refine W.exit ?_
      have hr := Option.some.inj hf; subst hr
      have hr := hbbs30 _ rfl; subst hr
      have hf := hfs30
      exact Jk24 x28 _ _ h27_4 ((hs.mask []).pick []) hf
/-! elasticstore/elasticstorelaw04.QuorumOverlap: function 8 -/
theorem eslaw04_QuorumOverlap.calls {ok : Nat → Prop} {w0 : World} {x1 : Int} {x2 : Int}  {r : Bool} (hf : eslaw04_QuorumOverlap x1 x2 = some r)  :
    Calls Try.prog 8 #[.int .i64 x1, .int .i64 x2] w0 fun e w' => ∃ v, e = .returned v ∧ ∃ y : Unit, v = .bool r ∧ St ok (bz w0) w' [] [] := by
  unfold eslaw04_QuorumOverlap at hf
  refine calls_of_W (fn := Try.f8) (N := 39) Try.func8 rfl Try.ntmps8 rfl ?_
  have hs : St ok (bz w0) w0 [] [] := St.init All.nil
  refine W.seqK fun K3 hK3 => ?_
  refine W.region ?_
  refine WL.assign (v := .bool false) rfl ?_
  refine WL.nil ?_
  refine hK3 _ _ ?_
  refine W.seqK fun K4 hK4 => ?_
  refine W.region ?_
  refine WL.move (v := .int .i64 x1) rfl ?_
  refine WL.move (v := .int .i64 x2) rfl ?_
  obtain ⟨x5, hxx5, hf⟩ := bindE hf
  refine WL.call (vs := [.int .i64 x1, .int .i64 x2]) hs FN22 ⟨rfl, ⟨rfl, trivial⟩⟩ (fun ok hA => eslaw04_view.calls (x1 := x1) (x2 := x2) hxx5) ?_
  rintro ⟨a6, n7, c8⟩ w hs
  refine WL.alloc hs ZV26 (fun g9 w hs => ?_)
  refine WL.storeAll (vs := [.slice a6 n7 c8, .int .i64 x5.Rule.Kind, .int .i64 x5.Rule.Columns, .int .i64 x5.Rule.Faulty]) hs 0 rfl TI26 rfl rfl rfl rfl (ones_of rfl) rfl (fun w hs => ?_)
  refine WL.nil ?_
  refine hK4 _ _ ?_
  refine W.seqK fun K10 hK10 => ?_
  refine W.region ?_
  refine WL.loadN (vs := [.slice a6 n7 c8, .int .i64 x5.Rule.Kind, .int .i64 x5.Rule.Columns, .int .i64 x5.Rule.Faulty]) hs 0 rfl TI26 rfl rfl rfl ?_
  obtain ⟨x11, hxx11, hf⟩ := bindE hf
  refine WL.callL (vs := [.agg ([.slice a6 n7 c8, .int .i64 x5.Rule.Kind, .int .i64 x5.Rule.Columns, .int .i64 x5.Rule.Faulty] : List Value).toArray]) hs FN25 ⟨rfl, trivial⟩ (quorum_Overlap.calls (x1 := (⟨x5.Members, (⟨x5.Rule.Kind, x5.Rule.Columns, x5.Rule.Faulty⟩ : api_Rule)⟩ : api_View)) hxx11 (V_agg (show t_api_View.R (fun _ => True) _ (⟨x5.Members, (⟨x5.Rule.Kind, x5.Rule.Columns, x5.Rule.Faulty⟩ : api_Rule)⟩ : api_View) [.slice a6 n7 c8, .int .i64 x5.Rule.Kind, .int .i64 x5.Rule.Columns, .int .i64 x5.Rule.Faulty] from ⟨[.slice a6 n7 c8], [.int .i64 x5.Rule.Kind, .int .i64 x5.Rule.Columns, .int .i64 x5.Rule.Faulty], rfl, (R_one (hs.ownT 1 rfl)), ⟨[.int .i64 x5.Rule.Kind], [.int .i64 x5.Rule.Columns, .int .i64 x5.Rule.Faulty], rfl, rfl, ⟨[.int .i64 x5.Rule.Columns], [.int .i64 x5.Rule.Faulty], rfl, rfl, rfl⟩⟩⟩) rfl)) ?_
  rintro _ w hs
  refine WL.assign (v := .int .i64 x11) rfl ?_
  refine WL.nil ?_
  refine hK10 _ _ ?_
  refine W.seqK fun K12 hK12 => ?_
  have Jk15 : ∀ (x14 : Bool) (ρ : Env) (w : World), ρ 4 = .bool x14 → St ok (bz w0) w [] [] → eslaw04_QuorumOverlap.j1 x14 = some r → K12 ρ w := by
    intro x14 ρ w h13_4 hs hf
    refine hK12 _ _ ?_
    unfold eslaw04_QuorumOverlap.j1 at hf
    refine W.ret ?_
    have hr := Option.some.inj hf; subst hr
    exact ⟨_, resOk_one rfl h13_4, (), rfl, (hs.mask []).pick []⟩
  refine W.region ?_
  refine WL.move (v := .int .i64 x11) rfl ?_
  refine WL.loadN (vs := [.slice a6 n7 c8, .int .i64 x5.Rule.Kind, .int .i64 x5.Rule.Columns, .int .i64 x5.Rule.Faulty]) hs 0 rfl TI26 rfl rfl rfl ?_
  obtain ⟨x16, hxx16, hf⟩ := bindE hf
  refine WL.callL (vs := [.agg ([.slice a6 n7 c8, .int .i64 x5.Rule.Kind, .int .i64 x5.Rule.Columns, .int .i64 x5.Rule.Faulty] : List Value).toArray]) hs FN26 ⟨rfl, trivial⟩ (esref06_Overlap.calls (x1 := (⟨x5.Members, (⟨x5.Rule.Kind, x5.Rule.Columns, x5.Rule.Faulty⟩ : api_Rule)⟩ : api_View)) hxx16 (V_agg (show t_api_View.R (fun _ => True) _ (⟨x5.Members, (⟨x5.Rule.Kind, x5.Rule.Columns, x5.Rule.Faulty⟩ : api_Rule)⟩ : api_View) [.slice a6 n7 c8, .int .i64 x5.Rule.Kind, .int .i64 x5.Rule.Columns, .int .i64 x5.Rule.Faulty] from ⟨[.slice a6 n7 c8], [.int .i64 x5.Rule.Kind, .int .i64 x5.Rule.Columns, .int .i64 x5.Rule.Faulty], rfl, (R_one (hs.ownT 1 rfl)), ⟨[.int .i64 x5.Rule.Kind], [.int .i64 x5.Rule.Columns, .int .i64 x5.Rule.Faulty], rfl, rfl, ⟨[.int .i64 x5.Rule.Columns], [.int .i64 x5.Rule.Faulty], rfl, rfl, rfl⟩⟩⟩) rfl)) ?_
  rintro _ w hs
  refine WL.bin (v := .bool (x11 == x16)) rfl rfl (ib_eql _ _ _) ?_
  refine WL.move (v := .bool (x11 == x16)) rfl ?_
  rcases iteE hf with ⟨hc17, hf⟩ | ⟨hc17, hf⟩
  · refine WL.loadN (vs := [.slice a6 n7 c8, .int .i64 x5.Rule.Kind, .int .i64 x5.Rule.Columns, .int .i64 x5.Rule.Faulty]) hs 0 rfl TI26 rfl rfl rfl ?_ (hg := (wanted_of rfl rfl (bool_tr rfl hc17)).trans rfl)
    obtain rfl := hs.ownLen 1 rfl
    have hs := hs.freezeOwn 1 rfl
    have hs := hs.add (it := vl t_api_View (⟨x5.Members, (⟨x5.Rule.Kind, x5.Rule.Columns, x5.Rule.Faulty⟩ : api_Rule)⟩ : api_View) (.agg [.slice a6 (x5.Members).length c8, .int .i64 x5.Rule.Kind, .int .i64 x5.Rule.Columns, .int .i64 x5.Rule.Faulty].toArray)) fun ok hA => V_agg (show t_api_View.R ok _ _ _ from ⟨[.slice a6 (x5.Members).length c8], [.int .i64 x5.Rule.Kind, .int .i64 x5.Rule.Columns, .int .i64 x5.Rule.Faulty], rfl, (R_one (hA.get 0 rfl)), ⟨[.int .i64 x5.Rule.Kind], [.int .i64 x5.Rule.Columns, .int .i64 x5.Rule.Faulty], rfl, rfl, ⟨[.int .i64 x5.Rule.Columns], [.int .i64 x5.Rule.Faulty], rfl, rfl, rfl⟩⟩⟩) rfl
    obtain ⟨x18, hxx18, hf⟩ := bindE hf
    refine WL.call (vs := [.agg ([.slice a6 (x5.Members).length c8, .int .i64 x5.Rule.Kind, .int .i64 x5.Rule.Columns, .int .i64 x5.Rule.Faulty] : List Value).toArray]) hs FN20 ⟨rfl, trivial⟩ (fun ok hA => quorum_Minimal.calls (x1 := (⟨x5.Members, (⟨x5.Rule.Kind, x5.Rule.Columns, x5.Rule.Faulty⟩ : api_Rule)⟩ : api_View)) hxx18 (hA.get 0 rfl)) ?_ (hg := (wanted_of rfl rfl (bool_tr rfl hc17)).trans rfl)
    rintro ⟨a19, n20, c21⟩ w hs
    refine WL.len (v := .slice a19 n20 c21) rfl (len_own hs 0 rfl UN36) ?_ (hg := (wanted_of rfl rfl (bool_tr rfl hc17)).trans rfl)
    refine WL.bin (v := .bool ((x18.length : Int) == 0)) rfl rfl (ib_eql _ _ _) ?_ (hg := (wanted_of rfl rfl (bool_tr rfl hc17)).trans rfl)
    refine WL.move (v := .int .i64 x11) rfl ?_ (hg := (wanted_of rfl rfl (bool_tr rfl hc17)).trans rfl)
    refine WL.bin (v := .bool (x11 == 0)) rfl rfl (ib_eql _ _ _) ?_ (hg := (wanted_of rfl rfl (bool_tr rfl hc17)).trans rfl)
    refine WL.eqB UN4 rfl rfl ?_ (hg := (wanted_of rfl rfl (bool_tr rfl hc17)).trans rfl)
    refine WL.pickT (v := .bool (((x18.length : Int) == 0) == (x11 == 0))) (bool_tr rfl hc17) rfl ?_
    refine WL.move (v := .bool (((x18.length : Int) == 0) == (x11 == 0))) rfl ?_
    rcases iteE hf with ⟨hc22, hf⟩ | ⟨hc22, hf⟩
    · refine WL.move (v := .int .i64 x11) rfl ?_ (hg := (wanted_of rfl rfl (bool_tr rfl hc22)).trans rfl)
      refine WL.bin (v := .bool (x11 == 0)) rfl rfl (ib_eql _ _ _) ?_ (hg := (wanted_of rfl rfl (bool_tr rfl hc22)).trans rfl)
      refine WL.move (v := .bool (x11 == 0)) rfl ?_ (hg := (wanted_of rfl rfl (bool_tr rfl hc22)).trans rfl)
      rcases iteE hf with ⟨hc23, hf⟩ | ⟨hc23, hf⟩
      · refine WL.pass ((wanted_of rfl rfl (bool_tr rfl hc23)).trans rfl) rfl ?_
        refine WL.pass ((wanted_of rfl rfl (bool_tr rfl hc23)).trans rfl) rfl ?_
        refine WL.pass ((wanted_of rfl rfl (bool_tr rfl hc23)).trans rfl) rfl ?_
        refine WL.pass ((wanted_of rfl rfl (bool_tr rfl hc23)).trans rfl) rfl ?_
        refine WL.pass ((wanted_of rfl rfl (bool_tr rfl hc23)).trans rfl) rfl ?_
        refine WL.pickT (v := .bool true) (bool_tr rfl hc23) rfl ?_ (hg := (wanted_of rfl rfl (bool_tr rfl hc22)).trans rfl)
        refine WL.pickT (v := .bool true) (bool_tr rfl hc22) rfl ?_
        refine WL.move (v := .bool true) rfl ?_
        obtain ⟨x24, hxx24, hf⟩ := bindE hf
        refine WL.call (vs := []) hs FN11 trivial (fun ok hA => eslaw04_awake.calls hxx24) ?_ (hg := (wanted_of rfl rfl rfl).trans rfl)
        rintro _ w hs
        refine WL.pickT (v := .bool x24) rfl rfl ?_
        refine WL.assign (v := .bool x24) rfl ?_
        refine WL.nil ?_
        exact Jk15 x24 _ _ rfl ((hs.mask []).pick []) hf
      · refine WL.move (v := .int .i64 x11) rfl ?_ (hg := (wanted_of rfl rfl (bool_tr rfl hc23)).trans rfl)
        refine WL.fieldAddr (m := 1) rfl FA26_1 rfl ?_ (hg := (wanted_of rfl rfl (bool_tr rfl hc23)).trans rfl)
        refine WL.fieldAddr (m := 3) rfl FA23_2 rfl ?_ (hg := (wanted_of rfl rfl (bool_tr rfl hc23)).trans rfl)
        refine WL.load1 (v := .int .i64 x5.Rule.Faulty) hs 1 rfl TI3 rfl rfl ?_ (hg := (wanted_of rfl rfl (bool_tr rfl hc23)).trans rfl)
        refine WL.bin (v := .bool (decide (x5.Rule.Faulty < x11))) rfl rfl (ib_gtr _ _ _) ?_ (hg := (wanted_of rfl rfl (bool_tr rfl hc23)).trans rfl)
        refine WL.pickF (v := .bool (decide (x5.Rule.Faulty < x11))) (bool_tr rfl hc23) rfl ?_ (hg := (wanted_of rfl rfl (bool_tr rfl hc22)).trans rfl)
        refine WL.pickT (v := .bool (decide (x5.Rule.Faulty < x11))) (bool_tr rfl hc22) rfl ?_
        refine WL.move (v := .bool (decide (x5.Rule.Faulty < x11))) rfl ?_
        rcases iteE hf with ⟨hc25, hf⟩ | ⟨hc25, hf⟩
        · obtain ⟨x26, hxx26, hf⟩ := bindE hf
          refine WL.call (vs := []) hs FN11 trivial (fun ok hA => eslaw04_awake.calls hxx26) ?_ (hg := (wanted_of rfl rfl (bool_tr rfl hc25)).trans rfl)
          rintro _ w hs
          refine WL.pickT (v := .bool x26) (bool_tr rfl hc25) rfl ?_
          refine WL.assign (v := .bool x26) rfl ?_
          refine WL.nil ?_
          exact Jk15 x26 _ _ rfl ((hs.mask []).pick []) hf
        · refine WL.pass ((wanted_of rfl rfl (bool_tr rfl hc25)).trans rfl) rfl ?_
          refine WL.pickF (v := .bool false) (bool_tr rfl hc25) rfl ?_
          refine WL.assign (v := .bool false) rfl ?_
          refine WL.nil ?_
          exact Jk15 false _ _ rfl ((hs.mask []).pick []) hf
    · refine WL.pass ((wanted_of rfl rfl (bool_tr rfl hc22)).trans rfl) rfl ?_
      refine WL.pass ((wanted_of rfl rfl (bool_tr rfl hc22)).trans rfl) rfl ?_
      refine WL.pass ((wanted_of rfl rfl (bool_tr rfl hc22)).trans rfl) rfl ?_
      refine WL.pass (wanted_undef rfl rfl rfl) rfl ?_
      refine WL.pass (wanted_undef rfl rfl rfl) rfl ?_
      refine WL.pass (wanted_undef rfl rfl rfl) rfl ?_
      refine WL.pass (wanted_undef rfl rfl rfl) rfl ?_
      refine WL.pass (wanted_undef rfl rfl rfl) rfl ?_
      refine WL.pass ((wanted_of rfl rfl (bool_tr rfl hc22)).trans rfl) rfl ?_
      refine WL.pickF (v := .bool false) (bool_tr rfl hc22) rfl ?_
      refine WL.move (v := .bool false) rfl ?_
      refine WL.pass ((wanted_of rfl rfl rfl).trans rfl) rfl ?_
      refine WL.pickF (v := .bool false) rfl rfl ?_
      refine WL.assign (v := .bool false) rfl ?_
      refine WL.nil ?_
      exact Jk15 false _ _ rfl ((hs.mask []).pick []) hf
  · refine WL.pass ((wanted_of rfl rfl (bool_tr rfl hc17)).trans rfl) rfl ?_
    refine WL.pass ((wanted_of rfl rfl (bool_tr rfl hc17)).trans rfl) rfl ?_
    refine WL.pass ((wanted_of rfl rfl (bool_tr rfl hc17)).trans rfl) rfl ?_
    refine WL.pass ((wanted_of rfl rfl (bool_tr rfl hc17)).trans rfl) rfl ?_
    refine WL.pass ((wanted_of rfl rfl (bool_tr rfl hc17)).trans rfl) rfl ?_
    refine WL.pass ((wanted_of rfl rfl (bool_tr rfl hc17)).trans rfl) rfl ?_
    refine WL.pass ((wanted_of rfl rfl (bool_tr rfl hc17)).trans rfl) rfl ?_
    refine WL.pickF (v := .bool false) (bool_tr rfl hc17) rfl ?_
    refine WL.move (v := .bool false) rfl ?_
    refine WL.pass ((wanted_of rfl rfl rfl).trans rfl) rfl ?_
    refine WL.pass ((wanted_of rfl rfl rfl).trans rfl) rfl ?_
    refine WL.pass ((wanted_of rfl rfl rfl).trans rfl) rfl ?_
    refine WL.pass (wanted_undef rfl rfl rfl) rfl ?_
    refine WL.pass (wanted_undef rfl rfl rfl) rfl ?_
    refine WL.pass (wanted_undef rfl rfl rfl) rfl ?_
    refine WL.pass (wanted_undef rfl rfl rfl) rfl ?_
    refine WL.pass (wanted_undef rfl rfl rfl) rfl ?_
    refine WL.pass ((wanted_of rfl rfl rfl).trans rfl) rfl ?_
    refine WL.pickF (v := .bool false) rfl rfl ?_
    refine WL.move (v := .bool false) rfl ?_
    refine WL.pass ((wanted_of rfl rfl rfl).trans rfl) rfl ?_
    refine WL.pickF (v := .bool false) rfl rfl ?_
    refine WL.assign (v := .bool false) rfl ?_
    refine WL.nil ?_
    exact Jk15 false _ _ rfl ((hs.mask []).pick []) hf
end Go.Proofs.Ytodebgfppmcjlaa
