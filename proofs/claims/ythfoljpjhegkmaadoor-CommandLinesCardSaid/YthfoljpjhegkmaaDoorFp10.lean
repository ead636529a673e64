import Derived.Test.YthfoljpjhegkmaaDoorFh
import Derived.Test.YthfoljpjhegkmaaDoorLw
import Derived.Test.YthfoljpjhegkmaaDoorFp2
import Derived.Test.YthfoljpjhegkmaaDoorFp5
import Derived.Test.YthfoljpjhegkmaaDoorFp7
import Derived.Test.YthfoljpjhegkmaaDoorFp9
set_option linter.unusedVariables false
set_option linter.unusedSimpArgs false
namespace Go.Proofs.YthfoljpjhegkmaaDoor
open Go Go.RowKit Go.Proofs.YthfoljpjhegkmaaDoorL
set_option maxRecDepth 100000
set_option maxHeartbeats 4000000
/-! elasticstore/elasticstoreref10.ParseCommand: function 10 -/
theorem esref10_ParseCommand.calls {ok : Nat → Prop} {w0 : World} {x1 : List UInt8}  {r : api_Change × Int} (hf : esref10_ParseCommand x1 = some r)  :
    Calls Tryd.prog 10 #[bstr x1] w0 fun e w' => ∃ v, e = .returned v ∧ ∃ y : List Value, v = .tuple #[.agg y.toArray, .int .i64 r.2] ∧ St ok (bz w0) w' [vl t_api_Change r.1 (.agg y.toArray)] [] := by
  unfold esref10_ParseCommand at hf
  refine calls_of_W (fn := Tryd.f10) (N := 23) Tryd.func10 rfl Tryd.ntmps10 rfl ?_
  have hs : St ok (bz w0) w0 [] [] := St.init All.nil
  refine W.seqK fun K2 hK2 => ?_
  refine W.region ?_
  refine WL.alloc hs ZV26 (fun g3 w hs => ?_)
  refine WL.assign (v := .int .i64 0) rfl ?_
  refine WL.nil ?_
  refine hK2 _ _ ?_
  refine W.seqK fun K4 hK4 => ?_
  refine W.region ?_
  refine WL.move (v := bstr x1) rfl ?_
  obtain ⟨⟨x5, x6⟩, hxx5, hf⟩ := bindE hf
  refine WL.call (vs := [bstr x1]) hs FN27 ⟨rfl, trivial⟩ (fun ok hA => esref10_form.calls (x1 := x1) hxx5) ?_
  rintro cs7 w hs
  have hl8 := hs.agglen (n := 7) 0 rfl rfl rfl
  refine WL.move (v := .tuple #[.agg cs7.toArray, .bool x6]) rfl ?_
  refine WL.extract (v := .agg cs7.toArray) rfl rfl ?_
  refine WL.extract (v := .bool x6) rfl rfl ?_
  refine WL.alloc hs ZV26 (fun g9 w hs => ?_)
  refine WL.storeAll (vs := cs7) hs 0 rfl TI26 rfl rfl rfl hl8 (hs.ones 0 rfl rfl) rfl (fun w hs => ?_)
  refine WL.assign (v := .bool x6) rfl ?_
  refine WL.nil ?_
  refine hK4 _ _ ?_
  refine W.seqK fun K10 hK10 => ?_
  refine W.seqK fun K11 hK11 => ?_
  refine W.region ?_
  refine WL.move (v := .bool x6) rfl ?_
  refine WL.not rfl ?_
  refine WL.nil ?_
  refine hK11 _ _ ?_
  rcases iteE hf with ⟨hc12, hf⟩ | ⟨hc12, hf⟩
  · refine W.cond_true (bool_tr rfl hc12) ?_
    refine W.seqK fun K13 hK13 => ?_
    refine W.region ?_
    refine WL.build (vs := []) (cs := [.int .i64 0, .int .i64 0, .int .i64 0, .int .i64 0, .int .i64 0, .int .i64 0, .int .i64 0]) trivial (bld PL26 rfl) ?_
    refine WL.storeAll (vs := [.int .i64 0, .int .i64 0, .int .i64 0, .int .i64 0, .int .i64 0, .int .i64 0, .int .i64 0]) hs 1 rfl TI26 rfl rfl rfl rfl (ones_of rfl) rfl (fun w hs => ?_)
    refine WL.assign (v := .int .i64 11) rfl ?_
    refine WL.nil ?_
    refine hK13 _ _ ?_
    refine W.ret ?_
    have hr := Option.some.inj hf; subst hr
    have hs := hs.add (it := vl t_api_Change (⟨0, 0, 0, 0, (⟨0, 0, 0⟩ : api_Rule)⟩ : api_Change) (.agg [.int .i64 0, .int .i64 0, .int .i64 0, .int .i64 0, .int .i64 0, .int .i64 0, .int .i64 0].toArray)) fun ok hA => V_agg (show t_api_Change.R ok _ _ _ from ⟨[.int .i64 0], [.int .i64 0, .int .i64 0, .int .i64 0, .int .i64 0, .int .i64 0, .int .i64 0], rfl, rfl, ⟨[.int .i64 0], [.int .i64 0, .int .i64 0, .int .i64 0, .int .i64 0, .int .i64 0], rfl, rfl, ⟨[.int .i64 0], [.int .i64 0, .int .i64 0, .int .i64 0, .int .i64 0], rfl, rfl, ⟨[.int .i64 0], [.int .i64 0, .int .i64 0, .int .i64 0], rfl, rfl, ⟨[.int .i64 0], [.int .i64 0, .int .i64 0], rfl, rfl, ⟨[.int .i64 0], [.int .i64 0], rfl, rfl, rfl⟩⟩⟩⟩⟩⟩) rfl
    exact ⟨_, resOk_two rfl (res_all hs 1 rfl TI26 rfl rfl) rfl, [.int .i64 0, .int .i64 0, .int .i64 0, .int .i64 0, .int .i64 0, .int .i64 0, .int .i64 0], rfl, (hs.mask []).pick [0]⟩
  · refine W.cond_false (bool_tr rfl hc12) ?_
    refine W.skip ?_
    refine hK10 _ _ ?_
    refine W.seqK fun K14 hK14 => ?_
    refine W.seqK fun K15 hK15 => ?_
    refine W.region ?_
    refine WL.loadAll hs 0 rfl TI26 rfl hl8 ?_
    obtain ⟨x16, hxx16, hf⟩ := bindE hf
    refine WL.call (vs := [.agg cs7.toArray]) hs FN29 ⟨rfl, trivial⟩ (fun ok hA => esref10_versioned.calls (x1 := x5) hxx16 (hA.get 0 rfl)) ?_
    rintro cs17 w hs
    have hl18 := hs.agglen (n := 7) 0 rfl rfl rfl
    obtain ⟨x19, hxx19, hf⟩ := bindE hf
    refine WL.call (vs := [.agg cs17.toArray]) hs FN28 ⟨rfl, trivial⟩ (fun ok hA => esref06_ValidateChange.calls (x1 := x16) hxx19 (hA.get 0 rfl)) ?_
    rintro _ w hs
    refine WL.assign (v := .int .i64 x19) rfl ?_
    refine WL.nil ?_
    refine hK15 _ _ ?_
    refine W.seqK fun K20 hK20 => ?_
    refine W.region ?_
    refine WL.move (v := .int .i64 x19) rfl ?_
    refine WL.bin (v := .bool (x19 != 0)) rfl rfl (ib_neq _ _ _) ?_
    refine WL.nil ?_
    refine hK20 _ _ ?_
    rcases iteE hf with ⟨hc21, hf⟩ | ⟨hc21, hf⟩
    · refine W.cond_true (bool_tr rfl hc21) ?_
      refine W.seqK fun K22 hK22 => ?_
      refine W.region ?_
      refine WL.build (vs := []) (cs := [.int .i64 0, .int .i64 0, .int .i64 0, .int .i64 0, .int .i64 0, .int .i64 0, .int .i64 0]) trivial (bld PL26 rfl) ?_
      refine WL.move (v := .int .i64 x19) rfl ?_
      refine WL.storeAll (vs := [.int .i64 0, .int .i64 0, .int .i64 0, .int .i64 0, .int .i64 0, .int .i64 0, .int .i64 0]) hs 1 rfl TI26 rfl rfl rfl rfl (ones_of rfl) rfl (fun w hs => ?_)
      refine WL.assign (v := .int .i64 x19) rfl ?_
      refine WL.nil ?_
      refine hK22 _ _ ?_
      refine W.ret ?_
      have hr := Option.some.inj hf; subst hr
      have hs := hs.add (it := vl t_api_Change (⟨0, 0, 0, 0, (⟨0, 0, 0⟩ : api_Rule)⟩ : api_Change) (.agg [.int .i64 0, .int .i64 0, .int .i64 0, .int .i64 0, .int .i64 0, .int .i64 0, .int .i64 0].toArray)) fun ok hA => V_agg (show t_api_Change.R ok _ _ _ from ⟨[.int .i64 0], [.int .i64 0, .int .i64 0, .int .i64 0, .int .i64 0, .int .i64 0, .int .i64 0], rfl, rfl, ⟨[.int .i64 0], [.int .i64 0, .int .i64 0, .int .i64 0, .int .i64 0, .int .i64 0], rfl, rfl, ⟨[.int .i64 0], [.int .i64 0, .int .i64 0, .int .i64 0, .int .i64 0], rfl, rfl, ⟨[.int .i64 0], [.int .i64 0, .int .i64 0, .int .i64 0], rfl, rfl, ⟨[.int .i64 0], [.int .i64 0, .int .i64 0], rfl, rfl, ⟨[.int .i64 0], [.int .i64 0], rfl, rfl, rfl⟩⟩⟩⟩⟩⟩) rfl
      exact ⟨_, resOk_two rfl (res_all hs 1 rfl TI26 rfl rfl) rfl, [.int .i64 0, .int .i64 0, .int .i64 0, .int .i64 0, .int .i64 0, .int .i64 0, .int .i64 0], rfl, (hs.mask []).pick [0]⟩
    · refine W.cond_false (bool_tr rfl hc21) ?_
      refine W.skip ?_
      refine hK14 _ _ ?_
      refine W.seqK fun K23 hK23 => ?_
      refine W.region ?_
      refine WL.loadAll hs 0 rfl TI26 rfl hl8 ?_
      refine WL.storeAll (vs := cs7) hs 1 rfl TI26 rfl rfl rfl hl8 (hs.ones 1 rfl rfl) rfl (fun w hs => ?_)
      refine WL.assign (v := .int .i64 0) rfl ?_
      refine WL.nil ?_
      refine hK23 _ _ ?_
      refine W.ret ?_
      have hr := Option.some.inj hf; subst hr
      exact ⟨_, resOk_two rfl (res_all hs 1 rfl TI26 rfl hl8) rfl, cs7, rfl, (hs.mask []).pick [1]⟩
/-! elasticstore/elasticstorelaw08.CommandParse: function 3 -/
theorem eslaw08_CommandParse.calls {ok : Nat → Prop} {w0 : World} {x1 : List UInt8}  {r : Bool} (hf : eslaw08_CommandParse x1 = some r)  :
    Calls Tryd.prog 3 #[bstr x1] w0 fun e w' => ∃ v, e = .returned v ∧ ∃ y : Unit, v = .bool r ∧ St ok (bz w0) w' [] [] := by
  unfold eslaw08_CommandParse at hf
  refine calls_of_W (fn := Tryd.f3) (N := 32) Tryd.func3 rfl Tryd.ntmps3 rfl ?_
  have hs : St ok (bz w0) w0 [] [] := St.init All.nil
  refine W.seqK fun K2 hK2 => ?_
  refine W.region ?_
  refine WL.assign (v := .bool false) rfl ?_
  refine WL.nil ?_
  refine hK2 _ _ ?_
  refine W.seqK fun K3 hK3 => ?_
  refine W.seqK fun K4 hK4 => ?_
  refine W.region ?_
  refine WL.move (v := bstr x1) rfl ?_
  refine WL.len (v := bstr x1) rfl (len_string UN9) ?_
  refine WL.bin (v := .bool (decide (300 < (x1.length : Int)))) rfl rfl (ib_gtr _ _ _) ?_
  refine WL.nil ?_
  refine hK4 _ _ ?_
  rcases iteE hf with ⟨hc5, hf⟩ | ⟨hc5, hf⟩
  · refine W.cond_true (bool_tr rfl hc5) ?_
    refine W.seqK fun K6 hK6 => ?_
    refine W.region ?_
    obtain ⟨x7, hxx7, hf⟩ := bindE hf
    refine WL.call (vs := []) hs FN8 trivial (fun ok hA => eslaw08_awake.calls hxx7) ?_
    rintro _ w hs
    refine WL.assign (v := .bool x7) rfl ?_
    refine WL.nil ?_
    refine hK6 _ _ ?_
    refine W.ret ?_
    have hr := Option.some.inj hf; subst hr
    exact ⟨_, resOk_one rfl rfl, (), rfl, (hs.mask []).pick []⟩
  · refine W.cond_false (bool_tr rfl hc5) ?_
    refine W.skip ?_
    refine hK3 _ _ ?_
    refine W.seqK fun K8 hK8 => ?_
    refine W.region ?_
    refine WL.move (v := bstr x1) rfl ?_
    obtain ⟨⟨x9, x10⟩, hxx9, hf⟩ := bindE hf
    refine WL.call (vs := [bstr x1]) hs FN9 ⟨rfl, trivial⟩ (fun ok hA => command_Parse.calls (x1 := x1) hxx9) ?_
    rintro cs11 w hs
    have hl12 := hs.agglen (n := 7) 0 rfl rfl rfl
    refine WL.move (v := .tuple #[.agg cs11.toArray, .int .i64 x10]) rfl ?_
    refine WL.extract (v := .agg cs11.toArray) rfl rfl ?_
    refine WL.extract (v := .int .i64 x10) rfl rfl ?_
    refine WL.alloc hs ZV26 (fun g13 w hs => ?_)
    refine WL.storeAll (vs := cs11) hs 0 rfl TI26 rfl rfl rfl hl12 (hs.ones 0 rfl rfl) rfl (fun w hs => ?_)
    refine WL.assign (v := .int .i64 x10) rfl ?_
    refine WL.nil ?_
    refine hK8 _ _ ?_
    refine W.seqK fun K14 hK14 => ?_
    refine W.region ?_
    refine WL.move (v := bstr x1) rfl ?_
    obtain ⟨⟨x15, x16⟩, hxx15, hf⟩ := bindE hf
    refine WL.call (vs := [bstr x1]) hs FN10 ⟨rfl, trivial⟩ (fun ok hA => esref10_ParseCommand.calls (x1 := x1) hxx15) ?_
    rintro cs17 w hs
    have hl18 := hs.agglen (n := 7) 0 rfl rfl rfl
    refine WL.move (v := .tuple #[.agg cs17.toArray, .int .i64 x16]) rfl ?_
    refine WL.extract (v := .agg cs17.toArray) rfl rfl ?_
    refine WL.extract (v := .int .i64 x16) rfl rfl ?_
    refine WL.alloc hs ZV26 (fun g19 w hs => ?_)
    refine WL.storeAll (vs := cs17) hs 0 rfl TI26 rfl rfl rfl hl18 (hs.ones 0 rfl rfl) rfl (fun w hs => ?_)
    refine WL.assign (v := .int .i64 x16) rfl ?_
    refine WL.nil ?_
    refine hK14 _ _ ?_
    refine W.seqK fun K20 hK20 => ?_
    have Jk23 : ∀ (x22 : Bool) (ρ : Env) (w : World), ρ 2 = .bool x22 → St ok (bz w0) w [] [] → eslaw08_CommandParse.j1 x22 = some r → K20 ρ w := by
      intro x22 ρ w h21_2 hs hf
      refine hK20 _ _ ?_
      unfold eslaw08_CommandParse.j1 at hf
      refine W.ret ?_
      have hr := Option.some.inj hf; subst hr
      exact ⟨_, resOk_one rfl h21_2, (), rfl, (hs.mask []).pick []⟩
    refine W.region ?_
    refine WL.loadAll hs 1 rfl TI26 rfl hl12 ?_
    refine WL.loadAll hs 0 rfl TI26 rfl hl18 ?_
    obtain rfl := open_api_Change hs 1 rfl
    obtain rfl := open_api_Change hs 0 rfl
    refine WL.eqA rfl rfl EG26 (EQ26 (⟨x9.Kind, x9.Server, x9.Weight, x9.Version, (⟨x9.Rule.Kind, x9.Rule.Columns, x9.Rule.Faulty⟩ : api_Rule)⟩ : api_Change) (⟨x15.Kind, x15.Server, x15.Weight, x15.Version, (⟨x15.Rule.Kind, x15.Rule.Columns, x15.Rule.Faulty⟩ : api_Rule)⟩ : api_Change)) ?_
    refine WL.move (v := .bool (decide ((⟨x9.Kind, x9.Server, x9.Weight, x9.Version, (⟨x9.Rule.Kind, x9.Rule.Columns, x9.Rule.Faulty⟩ : api_Rule)⟩ : api_Change) = (⟨x15.Kind, x15.Server, x15.Weight, x15.Version, (⟨x15.Rule.Kind, x15.Rule.Columns, x15.Rule.Faulty⟩ : api_Rule)⟩ : api_Change)))) rfl ?_
    rcases iteE hf with ⟨hc24, hf⟩ | ⟨hc24, hf⟩
    · refine WL.move (v := .int .i64 x10) rfl ?_ (hg := (wanted_of rfl rfl (bool_tr rfl hc24)).trans rfl)
      refine WL.move (v := .int .i64 x16) rfl ?_ (hg := (wanted_of rfl rfl (bool_tr rfl hc24)).trans rfl)
      refine WL.bin (v := .bool (x10 == x16)) rfl rfl (ib_eql _ _ _) ?_ (hg := (wanted_of rfl rfl (bool_tr rfl hc24)).trans rfl)
      refine WL.pickT (v := .bool (x10 == x16)) (bool_tr rfl hc24) rfl ?_
      refine WL.move (v := .bool (x10 == x16)) rfl ?_
      rcases iteE hf with ⟨hc25, hf⟩ | ⟨hc25, hf⟩
      · obtain ⟨x26, hxx26, hf⟩ := bindE hf
        refine WL.call (vs := []) hs FN8 trivial (fun ok hA => eslaw08_awake.calls hxx26) ?_ (hg := (wanted_of rfl rfl (bool_tr rfl hc25)).trans rfl)
        rintro _ w hs
        refine WL.pickT (v := .bool x26) (bool_tr rfl hc25) rfl ?_
        refine WL.assign (v := .bool x26) rfl ?_
        refine WL.nil ?_
        exact Jk23 x26 _ _ rfl ((hs.mask []).pick []) hf
      · refine WL.pass ((wanted_of rfl rfl (bool_tr rfl hc25)).trans rfl) rfl ?_
        refine WL.pickF (v := .bool false) (bool_tr rfl hc25) rfl ?_
        refine WL.assign (v := .bool false) rfl ?_
        refine WL.nil ?_
        exact Jk23 false _ _ rfl ((hs.mask []).pick []) hf
    · refine WL.pass ((wanted_of rfl rfl (bool_tr rfl hc24)).trans rfl) rfl ?_
      refine WL.pass ((wanted_of rfl rfl (bool_tr rfl hc24)).trans rfl) rfl ?_
      refine WL.pass ((wanted_of rfl rfl (bool_tr rfl hc24)).trans rfl) rfl ?_
      refine WL.pickF (v := .bool false) (bool_tr rfl hc24) rfl ?_
      refine WL.move (v := .bool false) rfl ?_
      refine WL.pass ((wanted_of rfl rfl rfl).trans rfl) rfl ?_
      refine WL.pickF (v := .bool false) rfl rfl ?_
      refine WL.assign (v := .bool false) rfl ?_
      refine WL.nil ?_
      exact Jk23 false _ _ rfl ((hs.mask []).pick []) hf
/-! elasticstore/elasticstoreref10.decimal: function 31 -/
theorem esref10_decimal.calls {ok : Nat → Prop} {w0 : World} {x1 : Int}  {r : List UInt8} (hf : esref10_decimal x1 = some r)  :
    Calls Tryd.prog 31 #[.int .i64 x1] w0 fun e w' => ∃ v, e = .returned v ∧ ∃ y : Unit, v = bstr r ∧ St ok (bz w0) w' [] [] := by
  unfold esref10_decimal at hf
  refine calls_of_W (fn := Tryd.f31) (N := 23) Tryd.func31 rfl Tryd.ntmps31 rfl ?_
  have hs : St ok (bz w0) w0 [] [] := St.init All.nil
  refine W.seqK fun K2 hK2 => ?_
  refine W.region ?_
  refine WL.assign (v := bstr ([] : List UInt8)) rfl ?_
  refine WL.nil ?_
  refine hK2 _ _ ?_
  refine W.seqK fun K3 hK3 => ?_
  refine W.region ?_
  refine WL.move (v := .int .i64 x1) rfl ?_
  refine WL.bin (v := .int .i64 (Int.tmod x1 10)) rfl rfl (ib_rem _ _ _ (by decide)) ?_
  obtain ⟨x4, ex4, hf⟩ := letE hf
  refine WL.bin (v := .int .i64 x4) rfl rfl (ib_as ex4 (ib_add _ _ _)) ?_
  refine WL.convI UN3 UN5 rfl ?_
  refine WL.buildSlice (n := 1) (vs := [(0, .int .u8 (IntKind.u8.wrap x4))]) (cs := [.int .u8 (IntKind.u8.wrap x4)]) hs ⟨⟨rfl, rfl⟩, trivial⟩ (bls PS43 (by decide) rfl) (fun g5 w hs => ?_)
  have hs := hs.ownLit (A := tInt .u8) (xs := [(IntKind.u8.wrap x4)]) 0 rfl (fun ok hA => (Cells.one (T := tInt .u8) rfl)) (Nat.le_of_ble_eq_true rfl)
  have hs := hs.freezeOwn 0 rfl
  refine WL.bytesStr hs 0 rfl UN43 UN5 UN9 rfl ?_
  refine WL.assign (v := bstr (bts [(IntKind.u8.wrap x4)])) rfl ?_
  refine WL.nil ?_
  refine hK3 _ _ ?_
  refine W.seqK fun K6 hK6 => ?_
  have Jk9 : ∀ (x8 : List UInt8) (ρ : Env) (w : World), ρ 3 = bstr x8 → St ok (bz w0) w [] [] → esref10_decimal.j1 x8 = some r → K6 ρ w := by
    intro x8 ρ w h7_3 hs hf
    refine hK6 _ _ ?_
    unfold esref10_decimal.j1 at hf
    refine W.seqK fun K10 hK10 => ?_
    refine W.region ?_
    refine WL.move (v := bstr x8) h7_3 ?_
    refine WL.assign (v := bstr x8) rfl ?_
    refine WL.nil ?_
    refine hK10 _ _ ?_
    refine W.ret ?_
    have hr := Option.some.inj hf; subst hr
    exact ⟨_, resOk_one rfl rfl, (), rfl, (hs.mask []).pick []⟩
  refine W.block ?_
  obtain ⟨bs14, hbs14, hfs14⟩ := bindE hf
  refine W.loop hbs14 (fun s ρ w => match s with | (x12, x13) => ρ 0 = .int .i64 x12 ∧ ρ 3 = bstr x13 ∧ St ok (bz w0) w [] []) ⟨rfl, rfl, (hs.mask []).pick []⟩ ?_
  intro s ρ w os14 hI hf hbbs14
  obtain ⟨x12, x13⟩ := s
  obtain ⟨h11_0, h11_3, hs⟩ := hI
  unfold esref10_decimal.l1 at hf
  refine W.seqK fun K15 hK15 => ?_
  refine W.seqK fun K16 hK16 => ?_
  refine W.region ?_
  refine WL.move (v := .int .i64 x12) h11_0 ?_
  refine WL.bin (v := .bool (decide (10 ≤ x12))) rfl rfl (ib_geq _ _ _) ?_
  refine WL.nil ?_
  refine hK16 _ _ ?_
  rcases iteE hf with ⟨hc17, hf⟩ | ⟨hc17, hf⟩
  · refine W.cond_true (bool_tr rfl hc17) ?_
    refine W.skip ?_
    refine hK15 _ _ ?_
    refine W.block ?_
    refine W.seqK fun K18 hK18 => ?_
    refine W.region ?_
    refine WL.move (v := .int .i64 x12) h11_0 ?_
    obtain ⟨x19, ex19, hf⟩ := letE hf
    refine WL.bin (v := .int .i64 x19) rfl rfl (ib_as ex19 (ib_quo _ _ _ (by decide))) ?_
    refine WL.assign (v := .int .i64 x19) rfl ?_
    refine WL.nil ?_
    refine hK18 _ _ ?_
    refine W.region ?_
    refine WL.move (v := .int .i64 x19) rfl ?_
    refine WL.bin (v := .int .i64 (Int.tmod x19 10)) rfl rfl (ib_rem _ _ _ (by decide)) ?_
    obtain ⟨x20, ex20, hf⟩ := letE hf
    refine WL.bin (v := .int .i64 x20) rfl rfl (ib_as ex20 (ib_add _ _ _)) ?_
    refine WL.convI UN3 UN5 rfl ?_
    refine WL.buildSlice (n := 1) (vs := [(0, .int .u8 (IntKind.u8.wrap x20))]) (cs := [.int .u8 (IntKind.u8.wrap x20)]) hs ⟨⟨rfl, rfl⟩, trivial⟩ (bls PS43 (by decide) rfl) (fun g21 w hs => ?_)
    have hs := hs.ownLit (A := tInt .u8) (xs := [(IntKind.u8.wrap x20)]) 0 rfl (fun ok hA => (Cells.one (T := tInt .u8) rfl)) (Nat.le_of_ble_eq_true rfl)
    have hs := hs.freezeOwn 0 rfl
    refine WL.bytesStr hs 0 rfl UN43 UN5 UN9 rfl ?_
    refine WL.move (v := bstr x13) h11_3 ?_
    obtain ⟨x22, hxx22, hf⟩ := bindE hf
    refine WL.binS (v := bstr x22) rfl rfl (sb_cat hxx22) ?_
    refine WL.assign (v := bstr x22) rfl ?_
    refine WL.nil ?_
    exact ⟨_, (Option.some.inj hf).symm, rfl, rfl, (hs.mask []).pick []⟩
  · refine W.cond_false (bool_tr rfl hc17) ?_
    refine W.exit ?_
    have hr := Option.some.inj hf; subst hr
    have hr := hbbs14 _ rfl; subst hr
    have hf := hfs14
    exact Jk9 x13 _ _ h11_3 ((hs.mask []).pick []) hf
/-! elasticstore/elasticstoreref10.FormatCommand: function 12 -/
theorem esref10_FormatCommand.calls {ok : Nat → Prop} {w0 : World} {x1 : api_Change} {v2 : Value} {r : List UInt8} (hf : esref10_FormatCommand x1 = some r) (i0 : (vl t_api_Change x1 v2).holds ok w0) :
    Calls Tryd.prog 12 #[v2] w0 fun e w' => ∃ v, e = .returned v ∧ ∃ y : Unit, v = bstr r ∧ St ok (bz w0) w' [] [] := by
  unfold esref10_FormatCommand at hf
  refine calls_of_W (fn := Tryd.f12) (N := 66) Tryd.func12 rfl Tryd.ntmps12 rfl ?_
  have hs : St ok (bz w0) w0 [vl t_api_Change x1 v2] [] := St.init (All.cons i0 All.nil)
  clear i0
  obtain ⟨cs3, hl4, rfl⟩ := hs.aggv (n := 7) 0 rfl rfl rfl
  refine W.seqK fun K5 hK5 => ?_
  refine W.region ?_
  refine WL.box (vs := cs3) hs rfl rfl (fun g6 w hs => ?_)
  refine WL.assign (v := bstr ([] : List UInt8)) rfl ?_
  refine WL.nil ?_
  refine hK5 _ _ ?_
  refine W.seqK fun K7 hK7 => ?_
  refine W.seqK fun K8 hK8 => ?_
  refine W.region ?_
  refine WL.loadAll hs 0 rfl TI26 rfl hl4 ?_
  obtain ⟨x9, hxx9, hf⟩ := bindE hf
  refine WL.call (vs := [.agg cs3.toArray]) hs FN29 ⟨rfl, trivial⟩ (fun ok hA => esref10_versioned.calls (x1 := x1) hxx9 (hA.get 0 rfl)) ?_
  rintro cs10 w hs
  have hl11 := hs.agglen (n := 7) 0 rfl rfl rfl
  obtain ⟨x12, hxx12, hf⟩ := bindE hf
  refine WL.call (vs := [.agg cs10.toArray]) hs FN28 ⟨rfl, trivial⟩ (fun ok hA => esref06_ValidateChange.calls (x1 := x9) hxx12 (hA.get 0 rfl)) ?_
  rintro _ w hs
  refine WL.bin (v := .bool (x12 != 0)) rfl rfl (ib_neq _ _ _) ?_
  refine WL.nil ?_
  refine hK8 _ _ ?_
  rcases iteE hf with ⟨hc13, hf⟩ | ⟨hc13, hf⟩
  · refine W.cond_true (bool_tr rfl hc13) ?_
    refine W.seqK fun K14 hK14 => ?_
    refine W.region ?_
    refine WL.assign (v := bstr ([] : List UInt8)) rfl ?_
    refine WL.nil ?_
    refine hK14 _ _ ?_
    refine W.ret ?_
    have hr := Option.some.inj hf; subst hr
    exact ⟨_, resOk_one rfl rfl, (), rfl, (hs.mask []).pick []⟩
  · refine W.cond_false (bool_tr rfl hc13) ?_
    refine W.skip ?_
    refine hK7 _ _ ?_
    refine W.seqK fun K15 hK15 => ?_
    refine W.block ?_
    refine W.seqK fun K16 hK16 => ?_
    refine W.region ?_
    refine WL.fieldAddr (m := 0) rfl FA26_0 rfl ?_
    refine WL.loadF (z := x1.Kind) F_api_Change_Kind hs 0 rfl 1 rfl rfl TI3 (.inr rfl) rfl rfl (fun v17 hs => ?_)
    obtain rfl := hs.int 0 rfl
    refine WL.bin (v := .bool (x1.Kind == 1)) rfl rfl (ib_eql _ _ _) ?_
    refine WL.assign (v := .bool (x1.Kind == 1)) rfl ?_
    refine WL.nil ?_
    refine hK16 _ _ ?_
    rcases iteE hf with ⟨hc18, hf⟩ | ⟨hc18, hf⟩
    · refine W.cond_true (bool_tr rfl hc18) ?_
      refine W.seqK fun K19 hK19 => ?_
      obtain ⟨x21, hxx21, hf⟩ := bindE hf
      obtain ⟨x22, hxx22, hf⟩ := bindE hf
      obtain ⟨x23, hxx23, hf⟩ := bindE hf
      obtain ⟨x25, hxx25, hf⟩ := bindE hf
      obtain ⟨x26, hxx26, hf⟩ := bindE hf
      refine W.any (by kernel_rfl) 9 1 [true, true, true, true, true, true, true, true, true, false] rfl rfl (poAt [pv (.pointer (some ⟨g6, 1, none⟩)), pv (.int .i64 x1.Server), pv (bstr x21), pv (bstr x22), pv (bstr x23), pv (.pointer (some ⟨g6, 2, none⟩)), pv (.int .i64 x1.Weight), pv (bstr x25), pv (bstr x26)]) (Λ := [blk g6 26 cs3]) hs (by kernel_rfl) (by kernel_rfl) (by kernel_rfl) ⟨⟨⟨⟨⟨⟨⟨⟨⟨trivial, ?_⟩, ?_⟩, ?_⟩, ?_⟩, ?_⟩, ?_⟩, ?_⟩, ?_⟩, ?_⟩ ?_
      · intro ρ w Γx Λx hs hu hp
        refine WL.fieldAddr (m := 1) (hu 1 rfl) FA26_1 rfl ?_
        exact WL.nil ⟨rfl, _, rfl, rfl, hs.cutG 0 0⟩
      · intro ρ w Γx Λx hs hu hp
        have e27 : ρ 11 = .pointer (some ⟨g6, 1, none⟩) := (hp 0 rfl).1
        refine WL.loadF (z := x1.Server) F_api_Change_Server hs (Λx.length + 0) (getApp rfl) (Γx.length + 2) (getApp rfl) rfl TI3 (.inr rfl) e27 rfl (fun v20 hs => ?_)
        obtain rfl := hs.int 0 rfl
        exact WL.nil ⟨rfl, _, rfl, rfl, hs.cutG 0 1⟩
      · intro ρ w Γx Λx hs hu hp
        have e28 : ρ 12 = .int .i64 x1.Server := (hp 1 rfl).1
        refine WL.call (vs := [.int .i64 x1.Server]) hs FN31 ⟨e28, trivial⟩ (fun ok hA => esref10_decimal.calls (x1 := x1.Server) hxx21) ?_
        rintro _ w hs
        exact WL.nil ⟨rfl, _, rfl, rfl, hs.cutG 0 0⟩
      · intro ρ w Γx Λx hs hu hp
        have e29 : ρ 13 = bstr x21 := (hp 2 rfl).1
        refine WL.binS (v := bstr x22) rfl e29 (sb_cat hxx22) ?_
        exact WL.nil ⟨rfl, _, rfl, rfl, hs.cutG 0 0⟩
      · intro ρ w Γx Λx hs hu hp
        have e30 : ρ 14 = bstr x22 := (hp 3 rfl).1
        refine WL.binS (v := bstr x23) e30 rfl (sb_cat hxx23) ?_
        exact WL.nil ⟨rfl, _, rfl, rfl, hs.cutG 0 0⟩
      · intro ρ w Γx Λx hs hu hp
        refine WL.fieldAddr (m := 2) (hu 1 rfl) FA26_2 rfl ?_
        exact WL.nil ⟨rfl, _, rfl, rfl, hs.cutG 0 0⟩
      · intro ρ w Γx Λx hs hu hp
        have e31 : ρ 16 = .pointer (some ⟨g6, 2, none⟩) := (hp 5 rfl).1
        refine WL.loadF (z := x1.Weight) F_api_Change_Weight hs (Λx.length + 0) (getApp rfl) (Γx.length + 2) (getApp rfl) rfl TI3 (.inr rfl) e31 rfl (fun v24 hs => ?_)
        obtain rfl := hs.int 0 rfl
        exact WL.nil ⟨rfl, _, rfl, rfl, hs.cutG 0 1⟩
      · intro ρ w Γx Λx hs hu hp
        have e32 : ρ 17 = .int .i64 x1.Weight := (hp 6 rfl).1
        refine WL.call (vs := [.int .i64 x1.Weight]) hs FN31 ⟨e32, trivial⟩ (fun ok hA => esref10_decimal.calls (x1 := x1.Weight) hxx25) ?_
        rintro _ w hs
        exact WL.nil ⟨rfl, _, rfl, rfl, hs.cutG 0 0⟩
      · intro ρ w Γx Λx hs hu hp
        have e33 : ρ 15 = bstr x23 := (hp 4 rfl).1
        have e34 : ρ 18 = bstr x25 := (hp 7 rfl).1
        refine WL.binS (v := bstr x26) e33 e34 (sb_cat hxx26) ?_
        exact WL.nil ⟨rfl, _, rfl, rfl, hs.cutG 0 0⟩
      · intro ρ w hs hu35 hp
        obtain ⟨⟨⟨⟨⟨⟨⟨⟨⟨_, hp0_⟩, hp1_⟩, hp2_⟩, hp3_⟩, hp4_⟩, hp5_⟩, hp6_⟩, hp7_⟩, hp8_⟩ := hp
        have hs : St ok (bz w0) w [vl (tInt .i64) x1.Kind (.int .i64 x1.Kind), vl t_api_Change x9 (.agg cs10.toArray), vl t_api_Change x1 (.agg cs3.toArray)] [blk g6 26 cs3] := hs
        have e36 : ρ 19 = bstr x26 := hp8_
        have e37 : ρ 18 = bstr x25 := hp7_
        have e38 : ρ 17 = .int .i64 x1.Weight := hp6_
        have e39 : ρ 16 = .pointer (some ⟨g6, 2, none⟩) := hp5_
        have e40 : ρ 15 = bstr x23 := hp4_
        have e41 : ρ 14 = bstr x22 := hp3_
        have e42 : ρ 13 = bstr x21 := hp2_
        have e43 : ρ 12 = .int .i64 x1.Server := hp1_
        have e44 : ρ 11 = .pointer (some ⟨g6, 1, none⟩) := hp0_
        refine WA.step [9] (by kernel_rfl) (by simp) ⟨?_, trivial⟩
        refine WL.assign (v := bstr x26) e36 ?_
        refine WL.nil ⟨rfl, _, rfl, ?_⟩
        refine WA.done (by kernel_rfl) ?_
        refine hK19 _ _ ?_
        refine W.ret ?_
        have hr := Option.some.inj hf; subst hr
        exact ⟨_, resOk_one rfl rfl, (), rfl, (hs.mask []).pick []⟩
    · refine W.cond_false (bool_tr rfl hc18) ?_
      refine W.seqK fun K45 hK45 => ?_
      refine W.region ?_
      refine WL.fieldAddr (m := 0) rfl FA26_0 rfl ?_
      refine WL.loadF (z := x1.Kind) F_api_Change_Kind hs 0 rfl 2 rfl rfl TI3 (.inr rfl) rfl rfl (fun v46 hs => ?_)
      obtain rfl := hs.int 0 rfl
      refine WL.bin (v := .bool (x1.Kind == 2)) rfl rfl (ib_eql _ _ _) ?_
      refine WL.assign (v := .bool (x1.Kind == 2)) rfl ?_
      refine WL.nil ?_
      refine hK45 _ _ ?_
      rcases iteE hf with ⟨hc47, hf⟩ | ⟨hc47, hf⟩
      · refine W.cond_true (bool_tr rfl hc47) ?_
        refine W.seqK fun K48 hK48 => ?_
        refine W.region ?_
        refine WL.fieldAddr (m := 1) rfl FA26_1 rfl ?_
        refine WL.loadF (z := x1.Server) F_api_Change_Server hs 0 rfl 3 rfl rfl TI3 (.inr rfl) rfl rfl (fun v49 hs => ?_)
        obtain rfl := hs.int 0 rfl
        obtain ⟨x50, hxx50, hf⟩ := bindE hf
        refine WL.call (vs := [.int .i64 x1.Server]) hs FN31 ⟨rfl, trivial⟩ (fun ok hA => esref10_decimal.calls (x1 := x1.Server) hxx50) ?_
        rintro _ w hs
        obtain ⟨x51, hxx51, hf⟩ := bindE hf
        refine WL.binS (v := bstr x51) rfl rfl (sb_cat hxx51) ?_
        refine WL.assign (v := bstr x51) rfl ?_
        refine WL.nil ?_
        refine hK48 _ _ ?_
        refine W.ret ?_
        have hr := Option.some.inj hf; subst hr
        exact ⟨_, resOk_one rfl rfl, (), rfl, (hs.mask []).pick []⟩
      · refine W.cond_false (bool_tr rfl hc47) ?_
        refine W.seqK fun K52 hK52 => ?_
        refine W.region ?_
        refine WL.fieldAddr (m := 0) rfl FA26_0 rfl ?_
        refine WL.loadF (z := x1.Kind) F_api_Change_Kind hs 0 rfl 3 rfl rfl TI3 (.inr rfl) rfl rfl (fun v53 hs => ?_)
        obtain rfl := hs.int 0 rfl
        refine WL.bin (v := .bool (x1.Kind == 3)) rfl rfl (ib_eql _ _ _) ?_
        refine WL.assign (v := .bool (x1.Kind == 3)) rfl ?_
        refine WL.nil ?_
        refine hK52 _ _ ?_
        rcases iteE hf with ⟨hc54, hf⟩ | ⟨hc54, hf⟩
        · refine W.cond_true (bool_tr rfl hc54) ?_
          refine W.seqK fun K55 hK55 => ?_
          obtain ⟨x57, hxx57, hf⟩ := bindE hf
          obtain ⟨x58, hxx58, hf⟩ := bindE hf
          obtain ⟨x59, hxx59, hf⟩ := bindE hf
          obtain ⟨x61, hxx61, hf⟩ := bindE hf
          obtain ⟨x62, hxx62, hf⟩ := bindE hf
          refine W.any (by kernel_rfl) 9 1 [true, true, true, true, true, true, true, true, true, false] rfl rfl (poAt [pv (.pointer (some ⟨g6, 1, none⟩)), pv (.int .i64 x1.Server), pv (bstr x57), pv (bstr x58), pv (bstr x59), pv (.pointer (some ⟨g6, 2, none⟩)), pv (.int .i64 x1.Weight), pv (bstr x61), pv (bstr x62)]) (Λ := [blk g6 26 cs3]) hs (by kernel_rfl) (by kernel_rfl) (by kernel_rfl) ⟨⟨⟨⟨⟨⟨⟨⟨⟨trivial, ?_⟩, ?_⟩, ?_⟩, ?_⟩, ?_⟩, ?_⟩, ?_⟩, ?_⟩, ?_⟩ ?_
          · intro ρ w Γx Λx hs hu hp
            refine WL.fieldAddr (m := 1) (hu 1 rfl) FA26_1 rfl ?_
            exact WL.nil ⟨rfl, _, rfl, rfl, hs.cutG 0 0⟩
          · intro ρ w Γx Λx hs hu hp
            have e63 : ρ 32 = .pointer (some ⟨g6, 1, none⟩) := (hp 0 rfl).1
            refine WL.loadF (z := x1.Server) F_api_Change_Server hs (Λx.length + 0) (getApp rfl) (Γx.length + 4) (getApp rfl) rfl TI3 (.inr rfl) e63 rfl (fun v56 hs => ?_)
            obtain rfl := hs.int 0 rfl
            exact WL.nil ⟨rfl, _, rfl, rfl, hs.cutG 0 1⟩
          · intro ρ w Γx Λx hs hu hp
            have e64 : ρ 33 = .int .i64 x1.Server := (hp 1 rfl).1
            refine WL.call (vs := [.int .i64 x1.Server]) hs FN31 ⟨e64, trivial⟩ (fun ok hA => esref10_decimal.calls (x1 := x1.Server) hxx57) ?_
            rintro _ w hs
            exact WL.nil ⟨rfl, _, rfl, rfl, hs.cutG 0 0⟩
          · intro ρ w Γx Λx hs hu hp
            have e65 : ρ 34 = bstr x57 := (hp 2 rfl).1
            refine WL.binS (v := bstr x58) rfl e65 (sb_cat hxx58) ?_
            exact WL.nil ⟨rfl, _, rfl, rfl, hs.cutG 0 0⟩
          · intro ρ w Γx Λx hs hu hp
            have e66 : ρ 35 = bstr x58 := (hp 3 rfl).1
            refine WL.binS (v := bstr x59) e66 rfl (sb_cat hxx59) ?_
            exact WL.nil ⟨rfl, _, rfl, rfl, hs.cutG 0 0⟩
          · intro ρ w Γx Λx hs hu hp
            refine WL.fieldAddr (m := 2) (hu 1 rfl) FA26_2 rfl ?_
            exact WL.nil ⟨rfl, _, rfl, rfl, hs.cutG 0 0⟩
          · intro ρ w Γx Λx hs hu hp
            have e67 : ρ 37 = .pointer (some ⟨g6, 2, none⟩) := (hp 5 rfl).1
            refine WL.loadF (z := x1.Weight) F_api_Change_Weight hs (Λx.length + 0) (getApp rfl) (Γx.length + 4) (getApp rfl) rfl TI3 (.inr rfl) e67 rfl (fun v60 hs => ?_)
            obtain rfl := hs.int 0 rfl
            exact WL.nil ⟨rfl, _, rfl, rfl, hs.cutG 0 1⟩
          · intro ρ w Γx Λx hs hu hp
            have e68 : ρ 38 = .int .i64 x1.Weight := (hp 6 rfl).1
            refine WL.call (vs := [.int .i64 x1.Weight]) hs FN31 ⟨e68, trivial⟩ (fun ok hA => esref10_decimal.calls (x1 := x1.Weight) hxx61) ?_
            rintro _ w hs
            exact WL.nil ⟨rfl, _, rfl, rfl, hs.cutG 0 0⟩
          · intro ρ w Γx Λx hs hu hp
            have e69 : ρ 36 = bstr x59 := (hp 4 rfl).1
            have e70 : ρ 39 = bstr x61 := (hp 7 rfl).1
            refine WL.binS (v := bstr x62) e69 e70 (sb_cat hxx62) ?_
            exact WL.nil ⟨rfl, _, rfl, rfl, hs.cutG 0 0⟩
          · intro ρ w hs hu71 hp
            obtain ⟨⟨⟨⟨⟨⟨⟨⟨⟨_, hp0_⟩, hp1_⟩, hp2_⟩, hp3_⟩, hp4_⟩, hp5_⟩, hp6_⟩, hp7_⟩, hp8_⟩ := hp
            have hs : St ok (bz w0) w [vl (tInt .i64) x1.Kind (.int .i64 x1.Kind), vl (tInt .i64) x1.Kind (.int .i64 x1.Kind), vl (tInt .i64) x1.Kind (.int .i64 x1.Kind), vl t_api_Change x9 (.agg cs10.toArray), vl t_api_Change x1 (.agg cs3.toArray)] [blk g6 26 cs3] := hs
            have e72 : ρ 40 = bstr x62 := hp8_
            have e73 : ρ 39 = bstr x61 := hp7_
            have e74 : ρ 38 = .int .i64 x1.Weight := hp6_
            have e75 : ρ 37 = .pointer (some ⟨g6, 2, none⟩) := hp5_
            have e76 : ρ 36 = bstr x59 := hp4_
            have e77 : ρ 35 = bstr x58 := hp3_
            have e78 : ρ 34 = bstr x57 := hp2_
            have e79 : ρ 33 = .int .i64 x1.Server := hp1_
            have e80 : ρ 32 = .pointer (some ⟨g6, 1, none⟩) := hp0_
            refine WA.step [9] (by kernel_rfl) (by simp) ⟨?_, trivial⟩
            refine WL.assign (v := bstr x62) e72 ?_
            refine WL.nil ⟨rfl, _, rfl, ?_⟩
            refine WA.done (by kernel_rfl) ?_
            refine hK55 _ _ ?_
            refine W.ret ?_
            have hr := Option.some.inj hf; subst hr
            exact ⟨_, resOk_one rfl rfl, (), rfl, (hs.mask []).pick []⟩
        · refine W.cond_false (bool_tr rfl hc54) ?_
          refine W.seqK fun K81 hK81 => ?_
          refine W.region ?_
          refine WL.fieldAddr (m := 4) rfl FA26_4 rfl ?_
          refine WL.fieldAddr (m := 4) rfl FA24_0 rfl ?_
          refine WL.loadF (z := x1.Rule.Kind) (F_api_Change_Rule.comp F_api_Rule_Kind) hs 0 rfl 4 rfl rfl TI3 (.inr rfl) rfl rfl (fun v82 hs => ?_)
          obtain rfl := hs.int 0 rfl
          refine WL.bin (v := .bool (x1.Rule.Kind == 1)) rfl rfl (ib_eql _ _ _) ?_
          refine WL.assign (v := .bool (x1.Rule.Kind == 1)) rfl ?_
          refine WL.nil ?_
          refine hK81 _ _ ?_
          rcases iteE hf with ⟨hc83, hf⟩ | ⟨hc83, hf⟩
          · refine W.cond_true (bool_tr rfl hc83) ?_
            refine W.seqK fun K84 hK84 => ?_
            refine W.region ?_
            refine WL.assign (v := bstr ([114, 117, 108, 101, 32, 109, 97, 106, 111, 114, 105, 116, 121] : List UInt8)) rfl ?_
            refine WL.nil ?_
            refine hK84 _ _ ?_
            refine W.ret ?_
            have hr := Option.some.inj hf; subst hr
            exact ⟨_, resOk_one rfl rfl, (), rfl, (hs.mask []).pick []⟩
          · refine W.cond_false (bool_tr rfl hc83) ?_
            refine W.seqK fun K85 hK85 => ?_
            refine W.region ?_
            refine WL.fieldAddr (m := 4) rfl FA26_4 rfl ?_
            refine WL.fieldAddr (m := 4) rfl FA24_0 rfl ?_
            refine WL.loadF (z := x1.Rule.Kind) (F_api_Change_Rule.comp F_api_Rule_Kind) hs 0 rfl 5 rfl rfl TI3 (.inr rfl) rfl rfl (fun v86 hs => ?_)
            obtain rfl := hs.int 0 rfl
            refine WL.bin (v := .bool (x1.Rule.Kind == 2)) rfl rfl (ib_eql _ _ _) ?_
            refine WL.assign (v := .bool (x1.Rule.Kind == 2)) rfl ?_
            refine WL.nil ?_
            refine hK85 _ _ ?_
            rcases iteE hf with ⟨hc87, hf⟩ | ⟨hc87, hf⟩
            · refine W.cond_true (bool_tr rfl hc87) ?_
              refine W.seqK fun K88 hK88 => ?_
              refine W.region ?_
              refine WL.assign (v := bstr ([114, 117, 108, 101, 32, 119, 101, 105, 103, 104, 116, 101, 100] : List UInt8)) rfl ?_
              refine WL.nil ?_
              refine hK88 _ _ ?_
              refine W.ret ?_
              have hr := Option.some.inj hf; subst hr
              exact ⟨_, resOk_one rfl rfl, (), rfl, (hs.mask []).pick []⟩
            · refine W.cond_false (bool_tr rfl hc87) ?_
              refine W.seqK fun K89 hK89 => ?_
              refine W.region ?_
              refine WL.fieldAddr (m := 4) rfl FA26_4 rfl ?_
              refine WL.fieldAddr (m := 4) rfl FA24_0 rfl ?_
              refine WL.loadF (z := x1.Rule.Kind) (F_api_Change_Rule.comp F_api_Rule_Kind) hs 0 rfl 6 rfl rfl TI3 (.inr rfl) rfl rfl (fun v90 hs => ?_)
              obtain rfl := hs.int 0 rfl
              refine WL.bin (v := .bool (x1.Rule.Kind == 3)) rfl rfl (ib_eql _ _ _) ?_
              refine WL.assign (v := .bool (x1.Rule.Kind == 3)) rfl ?_
              refine WL.nil ?_
              refine hK89 _ _ ?_
              rcases iteE hf with ⟨hc91, hf⟩ | ⟨hc91, hf⟩
              · refine W.cond_true (bool_tr rfl hc91) ?_
                refine W.seqK fun K92 hK92 => ?_
                refine W.region ?_
                refine WL.fieldAddr (m := 4) rfl FA26_4 rfl ?_
                refine WL.fieldAddr (m := 5) rfl FA24_1 rfl ?_
                refine WL.loadF (z := x1.Rule.Columns) (F_api_Change_Rule.comp F_api_Rule_Columns) hs 0 rfl 7 rfl rfl TI3 (.inr rfl) rfl rfl (fun v93 hs => ?_)
                obtain rfl := hs.int 0 rfl
                obtain ⟨x94, hxx94, hf⟩ := bindE hf
                refine WL.call (vs := [.int .i64 x1.Rule.Columns]) hs FN31 ⟨rfl, trivial⟩ (fun ok hA => esref10_decimal.calls (x1 := x1.Rule.Columns) hxx94) ?_
                rintro _ w hs
                obtain ⟨x95, hxx95, hf⟩ := bindE hf
                refine WL.binS (v := bstr x95) rfl rfl (sb_cat hxx95) ?_
                refine WL.assign (v := bstr x95) rfl ?_
                refine WL.nil ?_
                refine hK92 _ _ ?_
                refine W.ret ?_
                have hr := Option.some.inj hf; subst hr
                exact ⟨_, resOk_one rfl rfl, (), rfl, (hs.mask []).pick []⟩
              · refine W.cond_false (bool_tr rfl hc91) ?_
                refine W.skip ?_
                refine hK15 _ _ ?_
                refine W.seqK fun K96 hK96 => ?_
                refine W.region ?_
                refine WL.fieldAddr (m := 4) rfl FA26_4 rfl ?_
                refine WL.fieldAddr (m := 6) rfl FA24_2 rfl ?_
                refine WL.loadF (z := x1.Rule.Faulty) (F_api_Change_Rule.comp F_api_Rule_Faulty) hs 0 rfl 7 rfl rfl TI3 (.inr rfl) rfl rfl (fun v97 hs => ?_)
                obtain rfl := hs.int 0 rfl
                obtain ⟨x98, hxx98, hf⟩ := bindE hf
                refine WL.call (vs := [.int .i64 x1.Rule.Faulty]) hs FN31 ⟨rfl, trivial⟩ (fun ok hA => esref10_decimal.calls (x1 := x1.Rule.Faulty) hxx98) ?_
                rintro _ w hs
                obtain ⟨x99, hxx99, hf⟩ := bindE hf
                refine WL.binS (v := bstr x99) rfl rfl (sb_cat hxx99) ?_
                refine WL.assign (v := bstr x99) rfl ?_
                refine WL.nil ?_
                refine hK96 _ _ ?_
                refine W.ret ?_
                have hr := Option.some.inj hf; subst hr
                exact ⟨_, resOk_one rfl rfl, (), rfl, (hs.mask []).pick []⟩
/-! elasticstore/elasticstorelaw08.CommandFormat: function 4 -/
theorem eslaw08_CommandFormat.calls {ok : Nat → Prop} {w0 : World} {x1 : api_Change} {v2 : Value} {r : Bool} (hf : eslaw08_CommandFormat x1 = some r) (i0 : (vl t_api_Change x1 v2).holds ok w0) :
    Calls Tryd.prog 4 #[v2] w0 fun e w' => ∃ v, e = .returned v ∧ ∃ y : Unit, v = .bool r ∧ St ok (bz w0) w' [] [] := by
  unfold eslaw08_CommandFormat at hf
  refine calls_of_W (fn := Tryd.f4) (N := 37) Tryd.func4 rfl Tryd.ntmps4 rfl ?_
  have hs : St ok (bz w0) w0 [vl t_api_Change x1 v2] [] := St.init (All.cons i0 All.nil)
  clear i0
  obtain ⟨cs3, hl4, rfl⟩ := hs.aggv (n := 7) 0 rfl rfl rfl
  refine W.seqK fun K5 hK5 => ?_
  refine W.region ?_
  obtain rfl := open_api_Change hs 0 rfl
  refine WL.box (vs := [.int .i64 x1.Kind, .int .i64 x1.Server, .int .i64 x1.Weight, .int .i64 x1.Version, .int .i64 x1.Rule.Kind, .int .i64 x1.Rule.Columns, .int .i64 x1.Rule.Faulty]) hs rfl rfl (fun g6 w hs => ?_)
  refine WL.assign (v := .bool false) rfl ?_
  refine WL.nil ?_
  refine hK5 _ _ ?_
  refine W.seqK fun K7 hK7 => ?_
  refine W.region ?_
  refine WL.loadN (vs := [.int .i64 x1.Kind, .int .i64 x1.Server, .int .i64 x1.Weight, .int .i64 x1.Version, .int .i64 x1.Rule.Kind, .int .i64 x1.Rule.Columns, .int .i64 x1.Rule.Faulty]) hs 0 rfl TI26 rfl rfl rfl ?_
  have hs := hs.add (it := vl t_api_Change (⟨x1.Kind, x1.Server, x1.Weight, x1.Version, (⟨x1.Rule.Kind, x1.Rule.Columns, x1.Rule.Faulty⟩ : api_Rule)⟩ : api_Change) (.agg [.int .i64 x1.Kind, .int .i64 x1.Server, .int .i64 x1.Weight, .int .i64 x1.Version, .int .i64 x1.Rule.Kind, .int .i64 x1.Rule.Columns, .int .i64 x1.Rule.Faulty].toArray)) fun ok hA => V_agg (show t_api_Change.R ok _ _ _ from ⟨[.int .i64 x1.Kind], [.int .i64 x1.Server, .int .i64 x1.Weight, .int .i64 x1.Version, .int .i64 x1.Rule.Kind, .int .i64 x1.Rule.Columns, .int .i64 x1.Rule.Faulty], rfl, rfl, ⟨[.int .i64 x1.Server], [.int .i64 x1.Weight, .int .i64 x1.Version, .int .i64 x1.Rule.Kind, .int .i64 x1.Rule.Columns, .int .i64 x1.Rule.Faulty], rfl, rfl, ⟨[.int .i64 x1.Weight], [.int .i64 x1.Version, .int .i64 x1.Rule.Kind, .int .i64 x1.Rule.Columns, .int .i64 x1.Rule.Faulty], rfl, rfl, ⟨[.int .i64 x1.Version], [.int .i64 x1.Rule.Kind, .int .i64 x1.Rule.Columns, .int .i64 x1.Rule.Faulty], rfl, rfl, ⟨[.int .i64 x1.Rule.Kind], [.int .i64 x1.Rule.Columns, .int .i64 x1.Rule.Faulty], rfl, rfl, ⟨[.int .i64 x1.Rule.Columns], [.int .i64 x1.Rule.Faulty], rfl, rfl, rfl⟩⟩⟩⟩⟩⟩) rfl
  obtain ⟨x8, hxx8, hf⟩ := bindE hf
  refine WL.call (vs := [.agg ([.int .i64 x1.Kind, .int .i64 x1.Server, .int .i64 x1.Weight, .int .i64 x1.Version, .int .i64 x1.Rule.Kind, .int .i64 x1.Rule.Columns, .int .i64 x1.Rule.Faulty] : List Value).toArray]) hs FN11 ⟨rfl, trivial⟩ (fun ok hA => command_Format.calls (x1 := (⟨x1.Kind, x1.Server, x1.Weight, x1.Version, (⟨x1.Rule.Kind, x1.Rule.Columns, x1.Rule.Faulty⟩ : api_Rule)⟩ : api_Change)) hxx8 (hA.get 0 rfl)) ?_
  rintro _ w hs
  refine WL.assign (v := bstr x8) rfl ?_
  refine WL.nil ?_
  refine hK7 _ _ ?_
  refine W.seqK fun K9 hK9 => ?_
  refine W.seqK fun K10 hK10 => ?_
  refine W.region ?_
  refine WL.move (v := bstr x8) rfl ?_
  refine WL.loadN (vs := [.int .i64 x1.Kind, .int .i64 x1.Server, .int .i64 x1.Weight, .int .i64 x1.Version, .int .i64 x1.Rule.Kind, .int .i64 x1.Rule.Columns, .int .i64 x1.Rule.Faulty]) hs 0 rfl TI26 rfl rfl rfl ?_
  have hs := hs.add (it := vl t_api_Change (⟨x1.Kind, x1.Server, x1.Weight, x1.Version, (⟨x1.Rule.Kind, x1.Rule.Columns, x1.Rule.Faulty⟩ : api_Rule)⟩ : api_Change) (.agg [.int .i64 x1.Kind, .int .i64 x1.Server, .int .i64 x1.Weight, .int .i64 x1.Version, .int .i64 x1.Rule.Kind, .int .i64 x1.Rule.Columns, .int .i64 x1.Rule.Faulty].toArray)) fun ok hA => V_agg (show t_api_Change.R ok _ _ _ from ⟨[.int .i64 x1.Kind], [.int .i64 x1.Server, .int .i64 x1.Weight, .int .i64 x1.Version, .int .i64 x1.Rule.Kind, .int .i64 x1.Rule.Columns, .int .i64 x1.Rule.Faulty], rfl, rfl, ⟨[.int .i64 x1.Server], [.int .i64 x1.Weight, .int .i64 x1.Version, .int .i64 x1.Rule.Kind, .int .i64 x1.Rule.Columns, .int .i64 x1.Rule.Faulty], rfl, rfl, ⟨[.int .i64 x1.Weight], [.int .i64 x1.Version, .int .i64 x1.Rule.Kind, .int .i64 x1.Rule.Columns, .int .i64 x1.Rule.Faulty], rfl, rfl, ⟨[.int .i64 x1.Version], [.int .i64 x1.Rule.Kind, .int .i64 x1.Rule.Columns, .int .i64 x1.Rule.Faulty], rfl, rfl, ⟨[.int .i64 x1.Rule.Kind], [.int .i64 x1.Rule.Columns, .int .i64 x1.Rule.Faulty], rfl, rfl, ⟨[.int .i64 x1.Rule.Columns], [.int .i64 x1.Rule.Faulty], rfl, rfl, rfl⟩⟩⟩⟩⟩⟩) rfl
  obtain ⟨x11, hxx11, hf⟩ := bindE hf
  refine WL.call (vs := [.agg ([.int .i64 x1.Kind, .int .i64 x1.Server, .int .i64 x1.Weight, .int .i64 x1.Version, .int .i64 x1.Rule.Kind, .int .i64 x1.Rule.Columns, .int .i64 x1.Rule.Faulty] : List Value).toArray]) hs FN12 ⟨rfl, trivial⟩ (fun ok hA => esref10_FormatCommand.calls (x1 := (⟨x1.Kind, x1.Server, x1.Weight, x1.Version, (⟨x1.Rule.Kind, x1.Rule.Columns, x1.Rule.Faulty⟩ : api_Rule)⟩ : api_Change)) hxx11 (hA.get 0 rfl)) ?_
  rintro _ w hs
  refine WL.binS (v := .bool (x8 != x11)) rfl rfl (sb_neq _ _) ?_
  refine WL.nil ?_
  refine hK10 _ _ ?_
  rcases iteE hf with ⟨hc12, hf⟩ | ⟨hc12, hf⟩
  · refine W.cond_true (bool_tr rfl hc12) ?_
    refine W.seqK fun K13 hK13 => ?_
    refine W.region ?_
    refine WL.assign (v := .bool false) rfl ?_
    refine WL.nil ?_
    refine hK13 _ _ ?_
    refine W.ret ?_
    have hr := Option.some.inj hf; subst hr
    exact ⟨_, resOk_one rfl rfl, (), rfl, (hs.mask []).pick []⟩
  · refine W.cond_false (bool_tr rfl hc12) ?_
    refine W.skip ?_
    refine hK9 _ _ ?_
    refine W.seqK fun K14 hK14 => ?_
    refine W.seqK fun K15 hK15 => ?_
    refine W.region ?_
    refine WL.move (v := bstr x8) rfl ?_
    refine WL.binS (v := .bool (x8 == ([] : List UInt8))) rfl rfl (sb_eql _ _) ?_
    refine WL.nil ?_
    refine hK15 _ _ ?_
    rcases iteE hf with ⟨hc16, hf⟩ | ⟨hc16, hf⟩
    · refine W.cond_true (bool_tr rfl hc16) ?_
      refine W.seqK fun K17 hK17 => ?_
      refine W.region ?_
      obtain ⟨x18, hxx18, hf⟩ := bindE hf
      refine WL.call (vs := []) hs FN8 trivial (fun ok hA => eslaw08_awake.calls hxx18) ?_
      rintro _ w hs
      refine WL.assign (v := .bool x18) rfl ?_
      refine WL.nil ?_
      refine hK17 _ _ ?_
      refine W.ret ?_
      have hr := Option.some.inj hf; subst hr
      exact ⟨_, resOk_one rfl rfl, (), rfl, (hs.mask []).pick []⟩
    · refine W.cond_false (bool_tr rfl hc16) ?_
      refine W.skip ?_
      refine hK14 _ _ ?_
      refine W.seqK fun K19 hK19 => ?_
      refine W.region ?_
      refine WL.move (v := bstr x8) rfl ?_
      obtain ⟨⟨x20, x21⟩, hxx20, hf⟩ := bindE hf
      refine WL.call (vs := [bstr x8]) hs FN9 ⟨rfl, trivial⟩ (fun ok hA => command_Parse.calls (x1 := x8) hxx20) ?_
      rintro cs22 w hs
      have hl23 := hs.agglen (n := 7) 0 rfl rfl rfl
      refine WL.move (v := .tuple #[.agg cs22.toArray, .int .i64 x21]) rfl ?_
      refine WL.extract (v := .agg cs22.toArray) rfl rfl ?_
      refine WL.extract (v := .int .i64 x21) rfl rfl ?_
      refine WL.alloc hs ZV26 (fun g24 w hs => ?_)
      refine WL.storeAll (vs := cs22) hs 0 rfl TI26 rfl rfl rfl hl23 (hs.ones 0 rfl rfl) rfl (fun w hs => ?_)
      refine WL.assign (v := .int .i64 x21) rfl ?_
      refine WL.nil ?_
      refine hK19 _ _ ?_
      refine W.seqK fun K25 hK25 => ?_
      refine W.region ?_
      refine WL.fieldAddr (m := 3) rfl FA26_3 rfl ?_
      refine WL.store (vs := [.int .i64 0]) (cs' := [.int .i64 x1.Kind, .int .i64 x1.Server, .int .i64 x1.Weight, .int .i64 0, .int .i64 x1.Rule.Kind, .int .i64 x1.Rule.Columns, .int .i64 x1.Rule.Faulty]) hs 1 rfl TI3 rfl rfl rfl rfl (ones_of rfl) (Nat.le_of_ble_eq_true rfl) rfl (fun w hs => ?_)
      refine WL.nil ?_
      refine hK25 _ _ ?_
      refine W.seqK fun K26 hK26 => ?_
      have Jk29 : ∀ (x28 : Bool) (ρ : Env) (w : World), ρ 2 = .bool x28 → St ok (bz w0) w [] [] → eslaw08_CommandFormat.j1 x28 = some r → K26 ρ w := by
        intro x28 ρ w h27_2 hs hf
        refine hK26 _ _ ?_
        unfold eslaw08_CommandFormat.j1 at hf
        refine W.ret ?_
        have hr := Option.some.inj hf; subst hr
        exact ⟨_, resOk_one rfl h27_2, (), rfl, (hs.mask []).pick []⟩
      refine W.region ?_
      refine WL.move (v := .int .i64 x21) rfl ?_
      refine WL.bin (v := .bool (x21 == 0)) rfl rfl (ib_eql _ _ _) ?_
      refine WL.move (v := .bool (x21 == 0)) rfl ?_
      rcases iteE hf with ⟨hc30, hf⟩ | ⟨hc30, hf⟩
      · refine WL.loadAll hs 0 rfl TI26 rfl hl23 ?_ (hg := (wanted_of rfl rfl (bool_tr rfl hc30)).trans rfl)
        refine WL.loadN (vs := [.int .i64 x1.Kind, .int .i64 x1.Server, .int .i64 x1.Weight, .int .i64 0, .int .i64 x1.Rule.Kind, .int .i64 x1.Rule.Columns, .int .i64 x1.Rule.Faulty]) hs 1 rfl TI26 rfl rfl rfl ?_ (hg := (wanted_of rfl rfl (bool_tr rfl hc30)).trans rfl)
        obtain rfl := open_api_Change hs 0 rfl
        refine WL.eqA rfl rfl EG26 (EQ26 (⟨x20.Kind, x20.Server, x20.Weight, x20.Version, (⟨x20.Rule.Kind, x20.Rule.Columns, x20.Rule.Faulty⟩ : api_Rule)⟩ : api_Change) (⟨x1.Kind, x1.Server, x1.Weight, 0, (⟨x1.Rule.Kind, x1.Rule.Columns, x1.Rule.Faulty⟩ : api_Rule)⟩ : api_Change)) ?_ (hg := (wanted_of rfl rfl (bool_tr rfl hc30)).trans rfl)
        refine WL.pickT (v := .bool (decide ((⟨x20.Kind, x20.Server, x20.Weight, x20.Version, (⟨x20.Rule.Kind, x20.Rule.Columns, x20.Rule.Faulty⟩ : api_Rule)⟩ : api_Change) = (⟨x1.Kind, x1.Server, x1.Weight, 0, (⟨x1.Rule.Kind, x1.Rule.Columns, x1.Rule.Faulty⟩ : api_Rule)⟩ : api_Change)))) (bool_tr rfl hc30) rfl ?_
        refine WL.move (v := .bool (decide ((⟨x20.Kind, x20.Server, x20.Weight, x20.Version, (⟨x20.Rule.Kind, x20.Rule.Columns, x20.Rule.Faulty⟩ : api_Rule)⟩ : api_Change) = (⟨x1.Kind, x1.Server, x1.Weight, 0, (⟨x1.Rule.Kind, x1.Rule.Columns, x1.Rule.Faulty⟩ : api_Rule)⟩ : api_Change)))) rfl ?_
        rcases iteE hf with ⟨hc31, hf⟩ | ⟨hc31, hf⟩
        · refine WL.loadN (vs := [.int .i64 x20.Kind, .int .i64 x20.Server, .int .i64 x20.Weight, .int .i64 x20.Version, .int .i64 x20.Rule.Kind, .int .i64 x20.Rule.Columns, .int .i64 x20.Rule.Faulty]) hs 0 rfl TI26 rfl rfl rfl ?_ (hg := (wanted_of rfl rfl (bool_tr rfl hc31)).trans rfl)
          have hs := hs.add (it := vl t_api_Change (⟨x20.Kind, x20.Server, x20.Weight, x20.Version, (⟨x20.Rule.Kind, x20.Rule.Columns, x20.Rule.Faulty⟩ : api_Rule)⟩ : api_Change) (.agg [.int .i64 x20.Kind, .int .i64 x20.Server, .int .i64 x20.Weight, .int .i64 x20.Version, .int .i64 x20.Rule.Kind, .int .i64 x20.Rule.Columns, .int .i64 x20.Rule.Faulty].toArray)) fun ok hA => V_agg (show t_api_Change.R ok _ _ _ from ⟨[.int .i64 x20.Kind], [.int .i64 x20.Server, .int .i64 x20.Weight, .int .i64 x20.Version, .int .i64 x20.Rule.Kind, .int .i64 x20.Rule.Columns, .int .i64 x20.Rule.Faulty], rfl, rfl, ⟨[.int .i64 x20.Server], [.int .i64 x20.Weight, .int .i64 x20.Version, .int .i64 x20.Rule.Kind, .int .i64 x20.Rule.Columns, .int .i64 x20.Rule.Faulty], rfl, rfl, ⟨[.int .i64 x20.Weight], [.int .i64 x20.Version, .int .i64 x20.Rule.Kind, .int .i64 x20.Rule.Columns, .int .i64 x20.Rule.Faulty], rfl, rfl, ⟨[.int .i64 x20.Version], [.int .i64 x20.Rule.Kind, .int .i64 x20.Rule.Columns, .int .i64 x20.Rule.Faulty], rfl, rfl, ⟨[.int .i64 x20.Rule.Kind], [.int .i64 x20.Rule.Columns, .int .i64 x20.Rule.Faulty], rfl, rfl, ⟨[.int .i64 x20.Rule.Columns], [.int .i64 x20.Rule.Faulty], rfl, rfl, rfl⟩⟩⟩⟩⟩⟩) rfl
          obtain ⟨x32, hxx32, hf⟩ := bindE hf
          refine WL.call (vs := [.agg ([.int .i64 x20.Kind, .int .i64 x20.Server, .int .i64 x20.Weight, .int .i64 x20.Version, .int .i64 x20.Rule.Kind, .int .i64 x20.Rule.Columns, .int .i64 x20.Rule.Faulty] : List Value).toArray]) hs FN11 ⟨rfl, trivial⟩ (fun ok hA => command_Format.calls (x1 := (⟨x20.Kind, x20.Server, x20.Weight, x20.Version, (⟨x20.Rule.Kind, x20.Rule.Columns, x20.Rule.Faulty⟩ : api_Rule)⟩ : api_Change)) hxx32 (hA.get 0 rfl)) ?_ (hg := (wanted_of rfl rfl (bool_tr rfl hc31)).trans rfl)
          rintro _ w hs
          refine WL.move (v := bstr x8) rfl ?_ (hg := (wanted_of rfl rfl (bool_tr rfl hc31)).trans rfl)
          refine WL.binS (v := .bool (x32 == x8)) rfl rfl (sb_eql _ _) ?_ (hg := (wanted_of rfl rfl (bool_tr rfl hc31)).trans rfl)
          refine WL.pickT (v := .bool (x32 == x8)) (bool_tr rfl hc31) rfl ?_
          refine WL.move (v := .bool (x32 == x8)) rfl ?_
          rcases iteE hf with ⟨hc33, hf⟩ | ⟨hc33, hf⟩
          · obtain ⟨x34, hxx34, hf⟩ := bindE hf
            refine WL.call (vs := []) hs FN8 trivial (fun ok hA => eslaw08_awake.calls hxx34) ?_ (hg := (wanted_of rfl rfl (bool_tr rfl hc33)).trans rfl)
            rintro _ w hs
            refine WL.pickT (v := .bool x34) (bool_tr rfl hc33) rfl ?_
            refine WL.assign (v := .bool x34) rfl ?_
            refine WL.nil ?_
            exact Jk29 x34 _ _ rfl ((hs.mask []).pick []) hf
          · refine WL.pass ((wanted_of rfl rfl (bool_tr rfl hc33)).trans rfl) rfl ?_
            refine WL.pickF (v := .bool false) (bool_tr rfl hc33) rfl ?_
            refine WL.assign (v := .bool false) rfl ?_
            refine WL.nil ?_
            exact Jk29 false _ _ rfl ((hs.mask []).pick []) hf
        · refine WL.pass ((wanted_of rfl rfl (bool_tr rfl hc31)).trans rfl) rfl ?_
          refine WL.pass ((wanted_of rfl rfl (bool_tr rfl hc31)).trans rfl) rfl ?_
          refine WL.pass ((wanted_of rfl rfl (bool_tr rfl hc31)).trans rfl) rfl ?_
          refine WL.pass ((wanted_of rfl rfl (bool_tr rfl hc31)).trans rfl) rfl ?_
          refine WL.pickF (v := .bool false) (bool_tr rfl hc31) rfl ?_
          refine WL.move (v := .bool false) rfl ?_
          refine WL.pass ((wanted_of rfl rfl rfl).trans rfl) rfl ?_
          refine WL.pickF (v := .bool false) rfl rfl ?_
          refine WL.assign (v := .bool false) rfl ?_
          refine WL.nil ?_
          exact Jk29 false _ _ rfl ((hs.mask []).pick []) hf
      · refine WL.pass ((wanted_of rfl rfl (bool_tr rfl hc30)).trans rfl) rfl ?_
        refine WL.pass ((wanted_of rfl rfl (bool_tr rfl hc30)).trans rfl) rfl ?_
        refine WL.pass ((wanted_of rfl rfl (bool_tr rfl hc30)).trans rfl) rfl ?_
        refine WL.pickF (v := .bool false) (bool_tr rfl hc30) rfl ?_
        refine WL.move (v := .bool false) rfl ?_
        refine WL.pass ((wanted_of rfl rfl rfl).trans rfl) rfl ?_
        refine WL.pass ((wanted_of rfl rfl rfl).trans rfl) rfl ?_
        refine WL.pass ((wanted_of rfl rfl rfl).trans rfl) rfl ?_
        refine WL.pass ((wanted_of rfl rfl rfl).trans rfl) rfl ?_
        refine WL.pickF (v := .bool false) rfl rfl ?_
        refine WL.move (v := .bool false) rfl ?_
        refine WL.pass ((wanted_of rfl rfl rfl).trans rfl) rfl ?_
        refine WL.pickF (v := .bool false) rfl rfl ?_
        refine WL.assign (v := .bool false) rfl ?_
        refine WL.nil ?_
        exact Jk29 false _ _ rfl ((hs.mask []).pick []) hf
/-! elasticstore/elasticstoreref10.servers: function 32 -/
theorem esref10_servers.calls {ok : Nat → Prop} {w0 : World} {x1 : List Int} {a2 : Option Addr} {c3 : Nat} {r : Bool} (hf : esref10_servers x1 = some r) (i0 : (vl (tSlice (tInt .i64)) x1 (.slice a2 x1.length c3)).holds ok w0) :
    Calls Tryd.prog 32 #[.slice a2 x1.length c3] w0 fun e w' => ∃ v, e = .returned v ∧ ∃ y : Unit, v = .bool r ∧ St ok (bz w0) w' [] [] := by
  unfold esref10_servers at hf
  refine calls_of_W (fn := Tryd.f32) (N := 16) Tryd.func32 rfl Tryd.ntmps32 rfl ?_
  have hs : St ok (bz w0) w0 [vl (tSlice (tInt .i64)) x1 (.slice a2 x1.length c3)] [] := St.init (All.cons i0 All.nil)
  clear i0
  refine W.seqK fun K4 hK4 => ?_
  refine W.region ?_
  refine WL.assign (v := .bool false) rfl ?_
  refine WL.nil ?_
  refine hK4 _ _ ?_
  refine W.seqK fun K5 hK5 => ?_
  have Jk7 : ∀  (ρ : Env) (w : World), St ok (bz w0) w [] [] → esref10_servers.j1 = some r → K5 ρ w := by
    intro  ρ w  hs hf
    refine hK5 _ _ ?_
    unfold esref10_servers.j1 at hf
    refine W.seqK fun K8 hK8 => ?_
    refine W.region ?_
    refine WL.assign (v := .bool true) rfl ?_
    refine WL.nil ?_
    refine hK8 _ _ ?_
    refine W.ret ?_
    have hr := Option.some.inj hf; subst hr
    exact ⟨_, resOk_one rfl rfl, (), rfl, (hs.mask []).pick []⟩
  refine W.seqK fun K9 hK9 => ?_
  refine W.region ?_
  refine WL.assign (v := .int .i64 0) rfl ?_
  refine WL.nil ?_
  refine hK9 _ _ ?_
  refine W.block ?_
  obtain ⟨bs12, hbs12, hfs12⟩ := bindE hf
  refine W.loop hbs12 (fun s ρ w => match s with | x11 => ρ 0 = .slice a2 x1.length c3 ∧ ρ 3 = .int .i64 x11 ∧ St ok (bz w0) w [vl (tSlice (tInt .i64)) x1 (.slice a2 x1.length c3)] []) ⟨rfl, rfl, (hs.mask []).pick [0]⟩ ?_
  intro x11 ρ w os12 hI hf hbbs12
  obtain ⟨h10_0, h10_3, hs⟩ := hI
  unfold esref10_servers.l1 at hf
  refine W.seqK fun K13 hK13 => ?_
  refine W.seqK fun K14 hK14 => ?_
  refine W.region ?_
  refine WL.move (v := .int .i64 x11) h10_3 ?_
  refine WL.move (v := .slice a2 x1.length c3) h10_0 ?_
  refine WL.len (v := .slice a2 x1.length c3) rfl (len_slice UN33) ?_
  refine WL.bin (v := .bool (decide (x11 < (x1.length : Int)))) rfl rfl (ib_lss _ _ _) ?_
  refine WL.nil ?_
  refine hK14 _ _ ?_
  rcases iteE hf with ⟨hc15, hf⟩ | ⟨hc15, hf⟩
  · refine W.cond_true (bool_tr rfl hc15) ?_
    refine W.skip ?_
    refine hK13 _ _ ?_
    refine W.seqK fun K16 hK16 => ?_
    refine W.block ?_
    refine W.seqK fun K17 hK17 => ?_
    refine W.region ?_
    refine WL.move (v := .slice a2 x1.length c3) h10_0 ?_
    refine WL.move (v := .int .i64 x11) h10_3 ?_
    obtain ⟨x18, hxx18, hf⟩ := bindE hf
    refine WL.indexAddr hs 0 rfl UN33 TI3 rfl rfl hxx18 (fun ad19 hs => ?_)
    refine WL.loadP hs 0 rfl TI3 (.inr rfl) rfl (fun v20 hs => ?_)
    obtain rfl := hs.int 0 rfl
    obtain ⟨x21, hxx21, hf⟩ := bindE hf
    refine WL.call (vs := [.int .i64 x18]) hs FN34 ⟨rfl, trivial⟩ (fun ok hA => esref06_Server.calls (x1 := x18) hxx21) ?_
    rintro _ w hs
    refine WL.not rfl ?_
    refine WL.nil ?_
    refine hK17 _ _ ?_
    rcases iteE hf with ⟨hc22, hf⟩ | ⟨hc22, hf⟩
    · refine W.cond_true (bool_tr rfl hc22) ?_
      refine W.seqK fun K23 hK23 => ?_
      refine W.region ?_
      refine WL.assign (v := .bool false) rfl ?_
      refine WL.nil ?_
      refine hK23 _ _ ?_
      refine W.ret ?_
      have hr := Option.some.inj hf; subst hr
      have hr := hbbs12 _ rfl; subst hr
      have hf := hfs12
      have hr := Option.some.inj hf; subst hr
      exact ⟨_, resOk_one rfl rfl, (), rfl, (hs.mask []).pick []⟩
    · refine W.cond_false (bool_tr rfl hc22) ?_
      refine W.skip ?_
      refine hK16 _ _ ?_
      refine W.region ?_
      refine WL.move (v := .int .i64 x11) h10_3 ?_
      obtain ⟨x24, ex24, hf⟩ := letE hf
      refine WL.bin (v := .int .i64 x24) rfl rfl (ib_as ex24 (ib_add _ _ _)) ?_
      refine WL.assign (v := .int .i64 x24) rfl ?_
      refine WL.nil ?_
      exact ⟨_, (Option.some.inj hf).symm, h10_0, rfl, (hs.mask []).pick [2]⟩
  · refine W.cond_false (bool_tr rfl hc15) ?_
    refine W.exit ?_
    have hr := Option.some.inj hf; subst hr
    have hr := hbbs12 _ rfl; subst hr
    have hf := hfs12
    exact Jk7  _ _  ((hs.mask []).pick []) hf
end Go.Proofs.YthfoljpjhegkmaaDoor
