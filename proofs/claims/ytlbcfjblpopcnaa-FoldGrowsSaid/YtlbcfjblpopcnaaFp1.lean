import Derived.Test.YtlbcfjblpopcnaaFh
import Derived.Test.YtlbcfjblpopcnaaLz
set_option linter.unusedVariables false
set_option linter.unusedSimpArgs false
namespace Go.Proofs.Ytlbcfjblpopcnaa
open Go Go.RowKit Go.Proofs.YtlbcfjblpopcnaaL
set_option maxRecDepth 100000
set_option maxHeartbeats 4000000
/-! elasticstore/elasticstorelaw00.Index: function 24 -/
theorem eslaw00_Index.calls {ok : Nat → Prop} {w0 : World} {x1 : Int} {x2 : Int}  {r : Int} (hf : eslaw00_Index x1 x2 = some r)  :
    Calls Try.prog 24 #[.int .i64 x1, .int .i64 x2] w0 fun e w' => ∃ v, e = .returned v ∧ ∃ y : Unit, v = .int .i64 r ∧ St ok (bz w0) w' [] [] := by
  unfold eslaw00_Index at hf
  refine calls_of_W (fn := Try.f24) (N := 14) Try.func24 rfl Try.ntmps24 rfl ?_
  have hs : St ok (bz w0) w0 [] [] := St.init All.nil
  refine W.seqK fun K3 hK3 => ?_
  refine W.region ?_
  refine WL.assign (v := .int .i64 0) rfl ?_
  refine WL.nil ?_
  refine hK3 _ _ ?_
  refine W.seqK fun K4 hK4 => ?_
  refine W.seqK fun K5 hK5 => ?_
  refine W.region ?_
  refine WL.move (v := .int .i64 x2) rfl ?_
  refine WL.bin (v := .bool (decide (x2 < 1))) rfl rfl (ib_lss _ _ _) ?_
  refine WL.nil ?_
  refine hK5 _ _ ?_
  rcases iteE hf with ⟨hc6, hf⟩ | ⟨hc6, hf⟩
  · refine W.cond_true (bool_tr rfl hc6) ?_
    refine W.seqK fun K7 hK7 => ?_
    refine W.region ?_
    refine WL.assign (v := .int .i64 0) rfl ?_
    refine WL.nil ?_
    refine hK7 _ _ ?_
    refine W.ret ?_
    have hr := Option.some.inj hf; subst hr
    exact ⟨_, resOk_one rfl rfl, (), rfl, (hs.mask []).pick []⟩
  · refine W.cond_false (bool_tr rfl hc6) ?_
    refine W.skip ?_
    refine hK4 _ _ ?_
    refine W.seqK fun K8 hK8 => ?_
    refine W.region ?_
    refine WL.move (v := .int .i64 x1) rfl ?_
    refine WL.move (v := .int .i64 x2) rfl ?_
    obtain ⟨hn9, hf⟩ := guardE hf
    refine WL.bin (v := .int .i64 (Int.tmod x1 x2)) rfl rfl (ib_rem _ _ _ hn9) ?_
    refine WL.move (v := .int .i64 x2) rfl ?_
    obtain ⟨x10, ex10, hf⟩ := letE hf
    refine WL.bin (v := .int .i64 x10) rfl rfl (ib_as ex10 (ib_add _ _ _)) ?_
    refine WL.move (v := .int .i64 x2) rfl ?_
    obtain ⟨hn11, hf⟩ := guardE hf
    refine WL.bin (v := .int .i64 (Int.tmod x10 x2)) rfl rfl (ib_rem _ _ _ hn11) ?_
    refine WL.assign (v := .int .i64 (Int.tmod x10 x2)) rfl ?_
    refine WL.nil ?_
    refine hK8 _ _ ?_
    refine W.ret ?_
    have hr := Option.some.inj hf; subst hr
    exact ⟨_, resOk_one rfl rfl, (), rfl, (hs.mask []).pick []⟩
/-! elasticstore/elasticstorelaw00.Digit: function 44 -/
theorem eslaw00_Digit.calls {ok : Nat → Prop} {w0 : World} {x1 : Int} {x2 : Int} {x3 : Int}  {r : Int} (hf : eslaw00_Digit x1 x2 x3 = some r)  :
    Calls Try.prog 44 #[.int .i64 x1, .int .i64 x2, .int .i64 x3] w0 fun e w' => ∃ v, e = .returned v ∧ ∃ y : Unit, v = .int .i64 r ∧ St ok (bz w0) w' [] [] := by
  unfold eslaw00_Digit at hf
  refine calls_of_W (fn := Try.f44) (N := 22) Try.func44 rfl Try.ntmps44 rfl ?_
  have hs : St ok (bz w0) w0 [] [] := St.init All.nil
  refine W.seqK fun K4 hK4 => ?_
  refine W.region ?_
  refine WL.assign (v := .int .i64 0) rfl ?_
  refine WL.nil ?_
  refine hK4 _ _ ?_
  refine W.seqK fun K5 hK5 => ?_
  refine W.region ?_
  refine WL.move (v := .int .i64 x1) rfl ?_
  obtain ⟨x6, hxx6, hf⟩ := bindE hf
  refine WL.call (vs := [.int .i64 x1, .int .i64 1099511627776]) hs FN24 ⟨rfl, ⟨rfl, trivial⟩⟩ (fun ok hA => eslaw00_Index.calls (x1 := x1) (x2 := 1099511627776) hxx6) ?_
  rintro _ w hs
  refine WL.assign (v := .int .i64 x6) rfl ?_
  refine WL.nil ?_
  refine hK5 _ _ ?_
  refine W.seqK fun K7 hK7 => ?_
  have Jk10 : ∀ (x9 : Int) (ρ : Env) (w : World), ρ 1 = .int .i64 x2 → ρ 7 = .int .i64 x9 → St ok (bz w0) w [] [] → eslaw00_Digit.j1 x2 x9 = some r → K7 ρ w := by
    intro x9 ρ w h8_1 h8_7 hs hf
    refine hK7 _ _ ?_
    unfold eslaw00_Digit.j1 at hf
    refine W.seqK fun K11 hK11 => ?_
    refine W.region ?_
    refine WL.move (v := .int .i64 x9) h8_7 ?_
    refine WL.move (v := .int .i64 x2) h8_1 ?_
    obtain ⟨hn12, hf⟩ := guardE hf
    refine WL.bin (v := .int .i64 (Int.tmod x9 x2)) rfl rfl (ib_rem _ _ _ hn12) ?_
    refine WL.assign (v := .int .i64 (Int.tmod x9 x2)) rfl ?_
    refine WL.nil ?_
    refine hK11 _ _ ?_
    refine W.ret ?_
    have hr := Option.some.inj hf; subst hr
    exact ⟨_, resOk_one rfl rfl, (), rfl, (hs.mask []).pick []⟩
  refine W.seqK fun K13 hK13 => ?_
  refine W.region ?_
  refine WL.assign (v := .int .i64 0) rfl ?_
  refine WL.nil ?_
  refine hK13 _ _ ?_
  refine W.block ?_
  obtain ⟨bs17, hbs17, hfs17⟩ := bindE hf
  refine W.loop hbs17 (fun s ρ w => match s with | (x15, x16) => ρ 1 = .int .i64 x2 ∧ ρ 2 = .int .i64 x3 ∧ ρ 7 = .int .i64 x15 ∧ ρ 8 = .int .i64 x16 ∧ St ok (bz w0) w [] []) ⟨rfl, rfl, rfl, rfl, (hs.mask []).pick []⟩ ?_
  intro s ρ w os17 hI hf hbbs17
  obtain ⟨x15, x16⟩ := s
  obtain ⟨h14_1, h14_2, h14_7, h14_8, hs⟩ := hI
  unfold eslaw00_Digit.l1 at hf
  refine W.seqK fun K18 hK18 => ?_
  refine W.seqK fun K19 hK19 => ?_
  refine W.region ?_
  refine WL.move (v := .int .i64 x16) h14_8 ?_
  refine WL.move (v := .int .i64 x3) h14_2 ?_
  refine WL.bin (v := .bool (decide (x16 < x3))) rfl rfl (ib_lss _ _ _) ?_
  refine WL.nil ?_
  refine hK19 _ _ ?_
  rcases iteE hf with ⟨hc20, hf⟩ | ⟨hc20, hf⟩
  · refine W.cond_true (bool_tr rfl hc20) ?_
    refine W.skip ?_
    refine hK18 _ _ ?_
    refine W.seqK fun K21 hK21 => ?_
    refine W.block ?_
    refine W.region ?_
    refine WL.move (v := .int .i64 x15) h14_7 ?_
    refine WL.move (v := .int .i64 x2) h14_1 ?_
    obtain ⟨hn23, hf⟩ := guardE hf
    obtain ⟨x22, ex22, hf⟩ := letE hf
    refine WL.bin (v := .int .i64 x22) rfl rfl (ib_as ex22 (ib_quo _ _ _ hn23)) ?_
    refine WL.assign (v := .int .i64 x22) rfl ?_
    refine WL.nil ?_
    refine hK21 _ _ ?_
    refine W.region ?_
    refine WL.move (v := .int .i64 x16) h14_8 ?_
    obtain ⟨x24, ex24, hf⟩ := letE hf
    refine WL.bin (v := .int .i64 x24) rfl rfl (ib_as ex24 (ib_add _ _ _)) ?_
    refine WL.assign (v := .int .i64 x24) rfl ?_
    refine WL.nil ?_
    exact ⟨_, (Option.some.inj hf).symm, h14_1, h14_2, rfl, rfl, (hs.mask []).pick []⟩
  · refine W.cond_false (bool_tr rfl hc20) ?_
    refine W.exit ?_
    have hr := Option.some.inj hf; subst hr
    have hr := hbbs17 _ rfl; subst hr
    have hf := hfs17
    exact Jk10 x15 _ _ h14_1 h14_7 ((hs.mask []).pick []) hf
/-! elasticstore/elasticstorelaw00.name: function 81 -/
theorem eslaw00_name.calls {ok : Nat → Prop} {w0 : World} {x1 : Int}  {r : List UInt8} (hf : eslaw00_name x1 = some r)  :
    Calls Try.prog 81 #[.int .i64 x1] w0 fun e w' => ∃ v, e = .returned v ∧ ∃ y : Unit, v = bstr r ∧ St ok (bz w0) w' [] [] := by
  unfold eslaw00_name at hf
  refine calls_of_W (fn := Try.f81) (N := 8) Try.func81 rfl Try.ntmps81 rfl ?_
  have hs : St ok (bz w0) w0 [] [] := St.init All.nil
  refine W.seqK fun K2 hK2 => ?_
  refine W.region ?_
  refine WL.assign (v := bstr ([] : List UInt8)) rfl ?_
  refine WL.nil ?_
  refine hK2 _ _ ?_
  refine W.seqK fun K3 hK3 => ?_
  refine W.region ?_
  refine WL.buildSlice (n := 4) (vs := [(0, bstr ([97] : List UInt8)), (1, bstr ([98] : List UInt8)), (2, bstr ([99] : List UInt8)), (3, bstr ([120, 49] : List UInt8))]) (cs := [bstr ([97] : List UInt8), bstr ([98] : List UInt8), bstr ([99] : List UInt8), bstr ([120, 49] : List UInt8)]) hs ⟨⟨rfl, rfl⟩, ⟨⟨rfl, rfl⟩, ⟨⟨rfl, rfl⟩, ⟨⟨rfl, rfl⟩, trivial⟩⟩⟩⟩ (bls PS55 (by decide) rfl) (fun g4 w hs => ?_)
  refine WL.move (v := .int .i64 x1) rfl ?_
  obtain ⟨x5, hxx5, hf⟩ := bindE hf
  refine WL.call (vs := [.int .i64 x1, .int .i64 4]) hs FN24 ⟨rfl, ⟨rfl, trivial⟩⟩ (fun ok hA => eslaw00_Index.calls (x1 := x1) (x2 := 4) hxx5) ?_
  rintro _ w hs
  have hs := hs.ownLit (A := tStr) (xs := [([97] : List UInt8), ([98] : List UInt8), ([99] : List UInt8), ([120, 49] : List UInt8)]) 0 rfl (fun ok hA => (Cells.app (Cells.one (T := tStr) rfl) (Cells.app (Cells.one (T := tStr) rfl) (Cells.app (Cells.one (T := tStr) rfl) (Cells.one (T := tStr) rfl))))) (Nat.le_of_ble_eq_true rfl)
  have hs := hs.freezeOwn 0 rfl
  obtain ⟨x6, hxx6, hf⟩ := bindE hf
  refine WL.indexAddr hs 0 rfl UN55 TI9 rfl rfl hxx6 (fun ad7 hs => ?_)
  refine WL.loadP hs 0 rfl TI9 (.inr rfl) rfl (fun v8 hs => ?_)
  obtain rfl := hs.str 0 rfl
  refine WL.assign (v := bstr x6) rfl ?_
  refine WL.nil ?_
  refine hK3 _ _ ?_
  refine W.ret ?_
  have hr := Option.some.inj hf; subst hr
  exact ⟨_, resOk_one rfl rfl, (), rfl, (hs.mask []).pick []⟩
/-! elasticstore/elasticstorelaw00.Effect: function 68 -/
theorem eslaw00_Effect.calls {ok : Nat → Prop} {w0 : World} {x1 : Int} {x2 : Bool}  {r : api_Effect} (hf : eslaw00_Effect x1 x2 = some r)  :
    Calls Try.prog 68 #[.int .i64 x1, .bool x2] w0 fun e w' => ∃ v, e = .returned v ∧ ∃ y : List Value, v = .agg y.toArray ∧ St ok (bz w0) w' [vl t_api_Effect r (.agg y.toArray)] [] := by
  unfold eslaw00_Effect at hf
  refine calls_of_W (fn := Try.f68) (N := 51) Try.func68 rfl Try.ntmps68 rfl ?_
  have hs : St ok (bz w0) w0 [] [] := St.init All.nil
  refine W.seqK fun K3 hK3 => ?_
  refine W.region ?_
  refine WL.alloc hs ZV67 (fun g4 w hs => ?_)
  refine WL.nil ?_
  refine hK3 _ _ ?_
  refine W.seqK fun K5 hK5 => ?_
  refine W.region ?_
  refine WL.move (v := .int .i64 x1) rfl ?_
  obtain ⟨x6, hxx6, hf⟩ := bindE hf
  refine WL.call (vs := [.int .i64 x1, .int .i64 4, .int .i64 1]) hs FN44 ⟨rfl, ⟨rfl, ⟨rfl, trivial⟩⟩⟩ (fun ok hA => eslaw00_Digit.calls (x1 := x1) (x2 := 4) (x3 := 1) hxx6) ?_
  rintro _ w hs
  obtain ⟨x7, hxx7, hf⟩ := bindE hf
  refine WL.call (vs := [.int .i64 x6]) hs FN81 ⟨rfl, trivial⟩ (fun ok hA => eslaw00_name.calls (x1 := x6) hxx7) ?_
  rintro _ w hs
  refine WL.move (v := .int .i64 x1) rfl ?_
  obtain ⟨x8, hxx8, hf⟩ := bindE hf
  refine WL.call (vs := [.int .i64 x1, .int .i64 4, .int .i64 2]) hs FN44 ⟨rfl, ⟨rfl, ⟨rfl, trivial⟩⟩⟩ (fun ok hA => eslaw00_Digit.calls (x1 := x1) (x2 := 4) (x3 := 2) hxx8) ?_
  rintro _ w hs
  obtain ⟨x9, hxx9, hf⟩ := bindE hf
  refine WL.call (vs := [.int .i64 x8]) hs FN81 ⟨rfl, trivial⟩ (fun ok hA => eslaw00_name.calls (x1 := x8) hxx9) ?_
  rintro _ w hs
  refine WL.build (vs := [(1, bstr x7), (2, bstr x9)]) (cs := [.int .i64 0, bstr x7, bstr x9, .int .i64 0, bstr []]) ⟨⟨rfl, rfl⟩, ⟨⟨rfl, rfl⟩, trivial⟩⟩ (bld PL67 rfl) ?_
  refine WL.alloc hs ZV67 (fun g10 w hs => ?_)
  refine WL.storeAll (vs := [.int .i64 0, bstr x7, bstr x9, .int .i64 0, bstr []]) hs 0 rfl TI67 rfl rfl rfl rfl (ones_of rfl) rfl (fun w hs => ?_)
  refine WL.nil ?_
  refine hK5 _ _ ?_
  refine W.seqK fun K11 hK11 => ?_
  refine W.region ?_
  refine WL.move (v := .int .i64 x1) rfl ?_
  obtain ⟨x12, hxx12, hf⟩ := bindE hf
  refine WL.call (vs := [.int .i64 x1, .int .i64 16, .int .i64 3]) hs FN44 ⟨rfl, ⟨rfl, ⟨rfl, trivial⟩⟩⟩ (fun ok hA => eslaw00_Digit.calls (x1 := x1) (x2 := 16) (x3 := 3) hxx12) ?_
  rintro _ w hs
  obtain ⟨x13, ex13, hf⟩ := letE hf
  refine WL.bin (v := .int .i64 x13) rfl rfl (ib_as ex13 (ib_sub _ _ _)) ?_
  refine WL.assign (v := .int .i64 x13) rfl ?_
  refine WL.nil ?_
  refine hK11 _ _ ?_
  refine W.seqK fun K14 hK14 => ?_
  have Jk19 : ∀ (x16 : Int) (x17 : Int) (x18 : List UInt8) (ρ : Env) (w : World), ρ 4 = .pointer (some ⟨g4, 0, none⟩) → ρ 5 = .pointer (some ⟨g10, 0, none⟩) → St ok (bz w0) w [] [blk g10 67 [.int .i64 x16, bstr x7, bstr x9, .int .i64 x17, bstr x18], blk g4 67 ([.int .i64 0, bstr [], bstr [], .int .i64 0, bstr []])] → eslaw00_Effect.j1 x7 x9 x16 x17 x18 = some r → K14 ρ w := by
    intro x16 x17 x18 ρ w h15_4 h15_5 hs hf
    refine hK14 _ _ ?_
    unfold eslaw00_Effect.j1 at hf
    refine W.seqK fun K20 hK20 => ?_
    refine W.region ?_
    refine WL.loadN (vs := [.int .i64 x16, bstr x7, bstr x9, .int .i64 x17, bstr x18]) hs 0 rfl TI67 h15_5 rfl rfl ?_
    refine WL.storeAll (vs := [.int .i64 x16, bstr x7, bstr x9, .int .i64 x17, bstr x18]) hs 1 rfl TI67 h15_4 rfl rfl rfl (ones_of rfl) rfl (fun w hs => ?_)
    refine WL.nil ?_
    refine hK20 _ _ ?_
    refine W.ret ?_
    have hr := Option.some.inj hf; subst hr
    have hs := hs.add (it := vl t_api_Effect (⟨x16, x7, x9, x17, x18⟩ : api_Effect) (.agg [.int .i64 x16, bstr x7, bstr x9, .int .i64 x17, bstr x18].toArray)) fun ok hA => V_agg (show t_api_Effect.R ok _ _ _ from ⟨[.int .i64 x16], [bstr x7, bstr x9, .int .i64 x17, bstr x18], rfl, rfl, ⟨[bstr x7], [bstr x9, .int .i64 x17, bstr x18], rfl, rfl, ⟨[bstr x9], [.int .i64 x17, bstr x18], rfl, rfl, ⟨[.int .i64 x17], [bstr x18], rfl, rfl, rfl⟩⟩⟩⟩) rfl
    exact ⟨_, resOk_one rfl (res_all hs 1 rfl TI67 h15_4 rfl), [.int .i64 x16, bstr x7, bstr x9, .int .i64 x17, bstr x18], rfl, (hs.mask []).pick [0]⟩
  refine W.block ?_
  refine W.seqK fun K21 hK21 => ?_
  refine W.region ?_
  refine WL.move (v := .bool x2) rfl ?_
  refine WL.assign (v := .bool x2) rfl ?_
  refine WL.nil ?_
  refine hK21 _ _ ?_
  rcases iteE hf with ⟨hc22, hf⟩ | ⟨hc22, hf⟩
  · refine W.cond_true (bool_tr rfl hc22) ?_
    refine W.seqK fun K23 hK23 => ?_
    refine W.region ?_
    refine WL.fieldAddr (m := 0) rfl FA67_0 rfl ?_
    refine WL.store (vs := [.int .i64 1]) (cs' := [.int .i64 1, bstr x7, bstr x9, .int .i64 0, bstr []]) hs 0 rfl TI3 rfl rfl rfl rfl (ones_of rfl) (Nat.le_of_ble_eq_true rfl) rfl (fun w hs => ?_)
    refine WL.nil ?_
    refine hK23 _ _ ?_
    refine W.seqK fun K24 hK24 => ?_
    refine W.region ?_
    refine WL.move (v := .int .i64 x13) rfl ?_
    refine WL.fieldAddr (m := 3) rfl FA67_3 rfl ?_
    refine WL.store (vs := [.int .i64 x13]) (cs' := [.int .i64 1, bstr x7, bstr x9, .int .i64 x13, bstr []]) hs 0 rfl TI2 rfl rfl rfl rfl (ones_of rfl) (Nat.le_of_ble_eq_true rfl) rfl (fun w hs => ?_)
    refine WL.nil ?_
    refine hK24 _ _ ?_
    refine W.region ?_
    refine WL.move (v := .int .i64 x1) rfl ?_
    obtain ⟨x25, hxx25, hf⟩ := bindE hf
    refine WL.call (vs := [.int .i64 x1, .int .i64 4, .int .i64 5]) hs FN44 ⟨rfl, ⟨rfl, ⟨rfl, trivial⟩⟩⟩ (fun ok hA => eslaw00_Digit.calls (x1 := x1) (x2 := 4) (x3 := 5) hxx25) ?_
    rintro _ w hs
    obtain ⟨x26, hxx26, hf⟩ := bindE hf
    refine WL.call (vs := [.int .i64 x25]) hs FN81 ⟨rfl, trivial⟩ (fun ok hA => eslaw00_name.calls (x1 := x25) hxx26) ?_
    rintro _ w hs
    refine WL.fieldAddr (m := 4) rfl FA67_4 rfl ?_
    refine WL.store (vs := [bstr x26]) (cs' := [.int .i64 1, bstr x7, bstr x9, .int .i64 x13, bstr x26]) hs 0 rfl TI9 rfl rfl rfl rfl (ones_of rfl) (Nat.le_of_ble_eq_true rfl) rfl (fun w hs => ?_)
    refine WL.nil ?_
    exact Jk19 1 x13 x26 _ _ rfl rfl ((hs.mask [true, true]).pick []) hf
  · refine W.cond_false (bool_tr rfl hc22) ?_
    refine W.seqK fun K27 hK27 => ?_
    refine W.region ?_
    refine WL.move (v := .int .i64 x1) rfl ?_
    obtain ⟨x28, hxx28, hf⟩ := bindE hf
    refine WL.call (vs := [.int .i64 x1, .int .i64 4, .int .i64 0]) hs FN44 ⟨rfl, ⟨rfl, ⟨rfl, trivial⟩⟩⟩ (fun ok hA => eslaw00_Digit.calls (x1 := x1) (x2 := 4) (x3 := 0) hxx28) ?_
    rintro _ w hs
    refine WL.bin (v := .bool (x28 == 0)) rfl rfl (ib_eql _ _ _) ?_
    refine WL.assign (v := .bool (x28 == 0)) rfl ?_
    refine WL.nil ?_
    refine hK27 _ _ ?_
    rcases iteE hf with ⟨hc29, hf⟩ | ⟨hc29, hf⟩
    · refine W.cond_true (bool_tr rfl hc29) ?_
      refine W.seqK fun K30 hK30 => ?_
      refine W.region ?_
      refine WL.fieldAddr (m := 0) rfl FA67_0 rfl ?_
      refine WL.store (vs := [.int .i64 2]) (cs' := [.int .i64 2, bstr x7, bstr x9, .int .i64 0, bstr []]) hs 0 rfl TI3 rfl rfl rfl rfl (ones_of rfl) (Nat.le_of_ble_eq_true rfl) rfl (fun w hs => ?_)
      refine WL.nil ?_
      refine hK30 _ _ ?_
      refine W.region ?_
      refine WL.move (v := .int .i64 x13) rfl ?_
      refine WL.fieldAddr (m := 3) rfl FA67_3 rfl ?_
      refine WL.store (vs := [.int .i64 x13]) (cs' := [.int .i64 2, bstr x7, bstr x9, .int .i64 x13, bstr []]) hs 0 rfl TI2 rfl rfl rfl rfl (ones_of rfl) (Nat.le_of_ble_eq_true rfl) rfl (fun w hs => ?_)
      refine WL.nil ?_
      exact Jk19 2 x13 [] _ _ rfl rfl ((hs.mask [true, true]).pick []) hf
    · refine W.cond_false (bool_tr rfl hc29) ?_
      refine W.seqK fun K31 hK31 => ?_
      refine W.region ?_
      refine WL.move (v := .int .i64 x1) rfl ?_
      obtain ⟨x32, hxx32, hf⟩ := bindE hf
      refine WL.call (vs := [.int .i64 x1, .int .i64 4, .int .i64 0]) hs FN44 ⟨rfl, ⟨rfl, ⟨rfl, trivial⟩⟩⟩ (fun ok hA => eslaw00_Digit.calls (x1 := x1) (x2 := 4) (x3 := 0) hxx32) ?_
      rintro _ w hs
      refine WL.bin (v := .bool (x32 == 1)) rfl rfl (ib_eql _ _ _) ?_
      refine WL.assign (v := .bool (x32 == 1)) rfl ?_
      refine WL.nil ?_
      refine hK31 _ _ ?_
      rcases iteE hf with ⟨hc33, hf⟩ | ⟨hc33, hf⟩
      · refine W.cond_true (bool_tr rfl hc33) ?_
        refine W.seqK fun K34 hK34 => ?_
        refine W.region ?_
        refine WL.fieldAddr (m := 0) rfl FA67_0 rfl ?_
        refine WL.store (vs := [.int .i64 3]) (cs' := [.int .i64 3, bstr x7, bstr x9, .int .i64 0, bstr []]) hs 0 rfl TI3 rfl rfl rfl rfl (ones_of rfl) (Nat.le_of_ble_eq_true rfl) rfl (fun w hs => ?_)
        refine WL.nil ?_
        refine hK34 _ _ ?_
        refine W.region ?_
        refine WL.move (v := .int .i64 x13) rfl ?_
        refine WL.fieldAddr (m := 3) rfl FA67_3 rfl ?_
        refine WL.store (vs := [.int .i64 x13]) (cs' := [.int .i64 3, bstr x7, bstr x9, .int .i64 x13, bstr []]) hs 0 rfl TI2 rfl rfl rfl rfl (ones_of rfl) (Nat.le_of_ble_eq_true rfl) rfl (fun w hs => ?_)
        refine WL.nil ?_
        exact Jk19 3 x13 [] _ _ rfl rfl ((hs.mask [true, true]).pick []) hf
      · refine W.cond_false (bool_tr rfl hc33) ?_
        refine W.seqK fun K35 hK35 => ?_
        refine W.region ?_
        refine WL.move (v := .int .i64 x1) rfl ?_
        obtain ⟨x36, hxx36, hf⟩ := bindE hf
        refine WL.call (vs := [.int .i64 x1, .int .i64 4, .int .i64 0]) hs FN44 ⟨rfl, ⟨rfl, ⟨rfl, trivial⟩⟩⟩ (fun ok hA => eslaw00_Digit.calls (x1 := x1) (x2 := 4) (x3 := 0) hxx36) ?_
        rintro _ w hs
        refine WL.bin (v := .bool (x36 == 2)) rfl rfl (ib_eql _ _ _) ?_
        refine WL.assign (v := .bool (x36 == 2)) rfl ?_
        refine WL.nil ?_
        refine hK35 _ _ ?_
        rcases iteE hf with ⟨hc37, hf⟩ | ⟨hc37, hf⟩
        · refine W.cond_true (bool_tr rfl hc37) ?_
          refine W.seqK fun K38 hK38 => ?_
          refine W.region ?_
          refine WL.fieldAddr (m := 0) rfl FA67_0 rfl ?_
          refine WL.store (vs := [.int .i64 4]) (cs' := [.int .i64 4, bstr x7, bstr x9, .int .i64 0, bstr []]) hs 0 rfl TI3 rfl rfl rfl rfl (ones_of rfl) (Nat.le_of_ble_eq_true rfl) rfl (fun w hs => ?_)
          refine WL.nil ?_
          refine hK38 _ _ ?_
          refine W.region ?_
          refine WL.move (v := .int .i64 x1) rfl ?_
          obtain ⟨x39, hxx39, hf⟩ := bindE hf
          refine WL.call (vs := [.int .i64 x1, .int .i64 4, .int .i64 5]) hs FN44 ⟨rfl, ⟨rfl, ⟨rfl, trivial⟩⟩⟩ (fun ok hA => eslaw00_Digit.calls (x1 := x1) (x2 := 4) (x3 := 5) hxx39) ?_
          rintro _ w hs
          obtain ⟨x40, hxx40, hf⟩ := bindE hf
          refine WL.call (vs := [.int .i64 x39]) hs FN81 ⟨rfl, trivial⟩ (fun ok hA => eslaw00_name.calls (x1 := x39) hxx40) ?_
          rintro _ w hs
          refine WL.fieldAddr (m := 4) rfl FA67_4 rfl ?_
          refine WL.store (vs := [bstr x40]) (cs' := [.int .i64 4, bstr x7, bstr x9, .int .i64 0, bstr x40]) hs 0 rfl TI9 rfl rfl rfl rfl (ones_of rfl) (Nat.le_of_ble_eq_true rfl) rfl (fun w hs => ?_)
          refine WL.nil ?_
          exact Jk19 4 0 x40 _ _ rfl rfl ((hs.mask [true, true]).pick []) hf
        · refine W.cond_false (bool_tr rfl hc37) ?_
          refine W.region ?_
          refine WL.fieldAddr (m := 0) rfl FA67_0 rfl ?_
          refine WL.store (vs := [.int .i64 5]) (cs' := [.int .i64 5, bstr x7, bstr x9, .int .i64 0, bstr []]) hs 0 rfl TI3 rfl rfl rfl rfl (ones_of rfl) (Nat.le_of_ble_eq_true rfl) rfl (fun w hs => ?_)
          refine WL.nil ?_
          exact Jk19 5 0 [] _ _ rfl rfl ((hs.mask [true, true]).pick []) hf
/-! elasticstore/elasticstorelaw00.Update: function 45 -/
theorem eslaw00_Update.calls {ok : Nat → Prop} {w0 : World} {x1 : Int} {x2 : Int} {x3 : Int}  {r : api_Update} (hf : eslaw00_Update x1 x2 x3 = some r)  :
    Calls Try.prog 45 #[.int .i64 x1, .int .i64 x2, .int .i64 x3] w0 fun e w' => ∃ v, e = .returned v ∧ ∃ y : (Option Addr × Nat × Nat), v = .agg ([.int .i64 r.Client, .int .i64 r.Seq, .int .i64 r.Tag, .slice y.1 y.2.1 y.2.2] : List Value).toArray ∧ St ok (bz w0) w' [] [own t_api_Effect 67 (.slice y.1 y.2.1 y.2.2) r.Effects] := by
  unfold eslaw00_Update at hf
  refine calls_of_W (fn := Try.f45) (N := 41) Try.func45 rfl Try.ntmps45 rfl ?_
  have hs : St ok (bz w0) w0 [] [] := St.init All.nil
  refine W.seqK fun K4 hK4 => ?_
  refine W.region ?_
  refine WL.alloc hs ZV41 (fun g5 w hs => ?_)
  refine WL.nil ?_
  refine hK4 _ _ ?_
  refine W.seqK fun K6 hK6 => ?_
  refine W.region ?_
  refine WL.move (v := .int .i64 x1) rfl ?_
  refine WL.move (v := .int .i64 x2) rfl ?_
  refine WL.build (vs := [(0, .int .i64 x1), (1, .int .i64 x2)]) (cs := [.int .i64 x1, .int .i64 x2, .int .i64 0, .slice none 0 0]) ⟨⟨rfl, rfl⟩, ⟨⟨rfl, rfl⟩, trivial⟩⟩ (bld PL41 rfl) ?_
  refine WL.alloc hs ZV41 (fun g7 w hs => ?_)
  refine WL.storeAll (vs := [.int .i64 x1, .int .i64 x2, .int .i64 0, .slice none 0 0]) hs 0 rfl TI41 rfl rfl rfl rfl (ones_of rfl) rfl (fun w hs => ?_)
  refine WL.nil ?_
  refine hK6 _ _ ?_
  refine W.seqK fun K8 hK8 => ?_
  refine W.seqK fun K9 hK9 => ?_
  refine W.region ?_
  refine WL.move (v := .int .i64 x3) rfl ?_
  obtain ⟨x10, hxx10, hf⟩ := bindE hf
  refine WL.call (vs := [.int .i64 x3, .int .i64 3, .int .i64 8]) hs FN44 ⟨rfl, ⟨rfl, ⟨rfl, trivial⟩⟩⟩ (fun ok hA => eslaw00_Digit.calls (x1 := x3) (x2 := 3) (x3 := 8) hxx10) ?_
  rintro _ w hs
  refine WL.bin (v := .bool (x10 == 0)) rfl rfl (ib_eql _ _ _) ?_
  refine WL.nil ?_
  refine hK9 _ _ ?_
  rcases iteE hf with ⟨hc11, hf⟩ | ⟨hc11, hf⟩
  · refine W.cond_true (bool_tr rfl hc11) ?_
    refine W.seqK fun K12 hK12 => ?_
    refine W.region ?_
    refine WL.move (v := .int .i64 x3) rfl ?_
    obtain ⟨x13, hxx13, hf⟩ := bindE hf
    refine WL.call (vs := [.int .i64 x3, .int .i64 16, .int .i64 4]) hs FN44 ⟨rfl, ⟨rfl, ⟨rfl, trivial⟩⟩⟩ (fun ok hA => eslaw00_Digit.calls (x1 := x3) (x2 := 16) (x3 := 4) hxx13) ?_
    rintro _ w hs
    refine WL.fieldAddr (m := 2) rfl FA41_2 rfl ?_
    refine WL.store (vs := [.int .i64 x13]) (cs' := [.int .i64 x1, .int .i64 x2, .int .i64 x13, .slice none 0 0]) hs 0 rfl TI3 rfl rfl rfl rfl (ones_of rfl) (Nat.le_of_ble_eq_true rfl) rfl (fun w hs => ?_)
    refine WL.nil ?_
    refine hK12 _ _ ?_
    refine W.seqK fun K14 hK14 => ?_
    refine W.region ?_
    refine WL.move (v := .int .i64 x3) rfl ?_
    obtain ⟨x15, hxx15, hf⟩ := bindE hf
    refine WL.call (vs := [.int .i64 x3, .bool true]) hs FN68 ⟨rfl, ⟨rfl, trivial⟩⟩ (fun ok hA => eslaw00_Effect.calls (x1 := x3) (x2 := true) hxx15) ?_
    rintro cs16 w hs
    have hl17 := hs.agglen (n := 5) 0 rfl rfl rfl
    refine WL.buildSlice (n := 1) (vs := [(0, .agg cs16.toArray)]) (cs := cs16) hs ⟨⟨rfl, rfl⟩, trivial⟩ (bls PS39 (by decide) (by simp [fillS, fillL, Value.cells, hl17])) (fun g18 w hs => ?_)
    refine WL.fieldAddr (m := 3) rfl FA41_3 rfl ?_
    refine WL.store (vs := [.slice (some ⟨g18, 0, none⟩) ([x15]).length 1]) (cs' := [.int .i64 x1, .int .i64 x2, .int .i64 x13, .slice (some ⟨g18, 0, none⟩) ([x15]).length 1]) hs 1 rfl TI39 rfl rfl rfl rfl (ones_of rfl) (Nat.le_of_ble_eq_true rfl) rfl (fun w hs => ?_)
    refine WL.nil ?_
    refine hK14 _ _ ?_
    refine W.seqK fun K19 hK19 => ?_
    refine W.region ?_
    refine WL.loadN (vs := [.int .i64 x1, .int .i64 x2, .int .i64 x13, .slice (some ⟨g18, 0, none⟩) ([x15]).length 1]) hs 1 rfl TI41 rfl rfl rfl ?_
    refine WL.storeAll (vs := [.int .i64 x1, .int .i64 x2, .int .i64 x13, .slice (some ⟨g18, 0, none⟩) ([x15]).length 1]) hs 2 rfl TI41 rfl rfl rfl rfl (ones_of rfl) rfl (fun w hs => ?_)
    have hs := hs.ownLit (A := t_api_Effect) (xs := [x15]) 0 rfl (fun ok hA => (Cells.one (T := t_api_Effect) (R_agg (hA.get 0 rfl) rfl))) (Nat.le_of_ble_eq_true rfl)
    refine WL.nil ?_
    refine hK19 _ _ ?_
    refine W.ret ?_
    have hr := Option.some.inj hf; subst hr
    exact ⟨_, resOk_one rfl (res_all hs 2 rfl TI41 rfl rfl), ((some ⟨g18, 0, none⟩), ([x15]).length, 1), rfl, (hs.mask [true]).pick []⟩
  · refine W.cond_false (bool_tr rfl hc11) ?_
    refine W.skip ?_
    refine hK8 _ _ ?_
    refine W.seqK fun K20 hK20 => ?_
    have hs := hs.ownNil t_api_Effect 67
    have Jk26 : ∀ (x22 : List api_Effect) (a23 : Option Addr) (c24 : Nat) (n25 : Nat) (ρ : Env) (w : World), ρ 6 = .pointer (some ⟨g5, 0, none⟩) → ρ 7 = .pointer (some ⟨g7, 0, none⟩) → St ok (bz w0) w [] [own t_api_Effect 67 (.slice a23 n25 c24) x22, blk g7 41 [.int .i64 x1, .int .i64 x2, .int .i64 0, .slice a23 n25 c24], blk g5 41 [.int .i64 0, .int .i64 0, .int .i64 0, .slice none 0 0]] → eslaw00_Update.j1 x1 x2 x22 = some r → K20 ρ w := by
      intro x22 a23 c24 n25 ρ w h21_6 h21_7 hs hf
      refine hK20 _ _ ?_
      unfold eslaw00_Update.j1 at hf
      refine W.seqK fun K27 hK27 => ?_
      refine W.region ?_
      refine WL.loadN (vs := [.int .i64 x1, .int .i64 x2, .int .i64 0, .slice a23 n25 c24]) hs 1 rfl TI41 h21_7 rfl rfl ?_
      refine WL.storeAll (vs := [.int .i64 x1, .int .i64 x2, .int .i64 0, .slice a23 n25 c24]) hs 2 rfl TI41 h21_6 rfl rfl rfl (ones_of rfl) rfl (fun w hs => ?_)
      refine WL.nil ?_
      refine hK27 _ _ ?_
      refine W.ret ?_
      have hr := Option.some.inj hf; subst hr
      exact ⟨_, resOk_one rfl (res_all hs 2 rfl TI41 h21_6 rfl), (a23, n25, c24), rfl, (hs.mask [true]).pick []⟩
    refine W.seqK fun K28 hK28 => ?_
    refine W.region ?_
    refine WL.assign (v := .int .i64 0) rfl ?_
    refine WL.nil ?_
    refine hK28 _ _ ?_
    refine W.block ?_
    obtain ⟨bs35, hbs35, hfs35⟩ := bindE hf
    refine W.loop hbs35 (fun s ρ w => match s with | (x30, x31) => ∃ (a32 : Option Addr), ∃ (c33 : Nat), ∃ (n34 : Nat), ρ 2 = .int .i64 x3 ∧ ρ 6 = .pointer (some ⟨g5, 0, none⟩) ∧ ρ 7 = .pointer (some ⟨g7, 0, none⟩) ∧ ρ 8 = .int .i64 x30 ∧ St ok (bz w0) w [] [own t_api_Effect 67 (.slice a32 n34 c33) x31, blk g7 41 [.int .i64 x1, .int .i64 x2, .int .i64 0, .slice a32 n34 c33], blk g5 41 [.int .i64 0, .int .i64 0, .int .i64 0, .slice none 0 0]]) ⟨none, 0, 0, rfl, rfl, rfl, rfl, (hs.mask [true, true, true]).pick []⟩ ?_
    intro s ρ w os35 hI hf hbbs35
    obtain ⟨x30, x31⟩ := s
    obtain ⟨a32, c33, n34, h29_2, h29_6, h29_7, h29_8, hs⟩ := hI
    unfold eslaw00_Update.l1 at hf
    refine W.seqK fun K36 hK36 => ?_
    refine W.seqK fun K37 hK37 => ?_
    refine W.region ?_
    refine WL.move (v := .int .i64 x30) h29_8 ?_
    refine WL.move (v := .int .i64 x3) h29_2 ?_
    obtain ⟨x38, hxx38, hf⟩ := bindE hf
    refine WL.call (vs := [.int .i64 x3, .int .i64 3, .int .i64 9]) hs FN44 ⟨rfl, ⟨rfl, ⟨rfl, trivial⟩⟩⟩ (fun ok hA => eslaw00_Digit.calls (x1 := x3) (x2 := 3) (x3 := 9) hxx38) ?_
    rintro _ w hs
    refine WL.bin (v := .bool (decide (x30 ≤ x38))) rfl rfl (ib_leq _ _ _) ?_
    refine WL.nil ?_
    refine hK37 _ _ ?_
    rcases iteE hf with ⟨hc39, hf⟩ | ⟨hc39, hf⟩
    · refine W.cond_true (bool_tr rfl hc39) ?_
      refine W.skip ?_
      refine hK36 _ _ ?_
      refine W.seqK fun K40 hK40 => ?_
      refine W.block ?_
      obtain ⟨x41, hxx41, hf⟩ := bindE hf
      obtain ⟨x42, ex42, hf⟩ := letE hf
      obtain ⟨hn44, hf⟩ := guardE hf
      obtain ⟨x43, ex43, hf⟩ := letE hf
      obtain ⟨x45, hxx45, hf⟩ := bindE hf
      refine W.any (by kernel_rfl) 9 3 [true, true, true, true, true, true, true, true, true, false, false, false] rfl rfl (poAt [pv (.pointer (some ⟨g7, 3, none⟩)), pv (.slice a32 n34 c33), pv (.int .i64 x3), pv (.int .i64 x41), pv (.int .i64 x30), pv (.int .i64 x42), pv (.int .i64 x43), pq (fun y : List Value => .agg y.toArray) (fun v => [vl t_api_Effect x45 v]) (fun v => []), pq (fun y : (Option Addr × Nat) => .slice y.1 ([x45]).length y.2) (fun v => [vl (tSlice t_api_Effect) [x45] v]) (fun v => [])]) (Λ := [own t_api_Effect 67 (.slice a32 n34 c33) x31, blk g7 41 [.int .i64 x1, .int .i64 x2, .int .i64 0, .slice a32 n34 c33], blk g5 41 [.int .i64 0, .int .i64 0, .int .i64 0, .slice none 0 0]]) hs (by kernel_rfl) (by kernel_rfl) (by kernel_rfl) ⟨⟨⟨⟨⟨⟨⟨⟨⟨trivial, ?_⟩, ?_⟩, ?_⟩, ?_⟩, ?_⟩, ?_⟩, ?_⟩, ?_⟩, ?_⟩ ?_
      · intro ρ w Γx Λx hs hu hp
        refine WL.fieldAddr (m := 3) ((hu 7 rfl).trans h29_7) FA41_3 rfl ?_
        exact WL.nil ⟨rfl, _, rfl, rfl, hs.cutG 0 0⟩
      · intro ρ w Γx Λx hs hu hp
        have e50 : ρ 29 = .pointer (some ⟨g7, 3, none⟩) := (hp 0 rfl).1
        refine WL.load1 (v := .slice a32 n34 c33) hs (Λx.length + 1) (getApp rfl) TI39 e50 rfl ?_
        exact WL.nil ⟨rfl, _, rfl, rfl, hs.cutG 0 0⟩
      · intro ρ w Γx Λx hs hu hp
        refine WL.move (v := .int .i64 x3) ((hu 2 rfl).trans h29_2) ?_
        exact WL.nil ⟨rfl, _, rfl, rfl, hs.cutG 0 0⟩
      · intro ρ w Γx Λx hs hu hp
        have e51 : ρ 31 = .int .i64 x3 := (hp 2 rfl).1
        refine WL.call (vs := [.int .i64 x3, .int .i64 1099511627776]) hs FN24 ⟨e51, ⟨rfl, trivial⟩⟩ (fun ok hA => eslaw00_Index.calls (x1 := x3) (x2 := 1099511627776) hxx41) ?_
        rintro _ w hs
        exact WL.nil ⟨rfl, _, rfl, rfl, hs.cutG 0 0⟩
      · intro ρ w Γx Λx hs hu hp
        refine WL.move (v := .int .i64 x30) ((hu 8 rfl).trans h29_8) ?_
        exact WL.nil ⟨rfl, _, rfl, rfl, hs.cutG 0 0⟩
      · intro ρ w Γx Λx hs hu hp
        have e52 : ρ 33 = .int .i64 x30 := (hp 4 rfl).1
        refine WL.bin (v := .int .i64 x42) e52 rfl (ib_as ex42 (ib_add _ _ _)) ?_
        exact WL.nil ⟨rfl, _, rfl, rfl, hs.cutG 0 0⟩
      · intro ρ w Γx Λx hs hu hp
        have e53 : ρ 32 = .int .i64 x41 := (hp 3 rfl).1
        have e54 : ρ 34 = .int .i64 x42 := (hp 5 rfl).1
        refine WL.bin (v := .int .i64 x43) e53 e54 (ib_as ex43 (ib_quo _ _ _ hn44)) ?_
        exact WL.nil ⟨rfl, _, rfl, rfl, hs.cutG 0 0⟩
      · intro ρ w Γx Λx hs hu hp
        have e55 : ρ 35 = .int .i64 x43 := (hp 6 rfl).1
        refine WL.call (vs := [.int .i64 x43, .bool false]) hs FN68 ⟨e55, ⟨rfl, trivial⟩⟩ (fun ok hA => eslaw00_Effect.calls (x1 := x43) (x2 := false) hxx45) ?_
        rintro cs46 w hs
        have hl47 := hs.agglen (n := 5) 0 rfl rfl rfl
        have hs := hs.add (it := vl t_api_Effect x45 (.agg cs46.toArray)) fun ok hA => hA.get 0 rfl
        exact WL.nil ⟨rfl, _, rfl, ⟨cs46, rfl⟩, hs.cutG 1 1⟩
      · intro ρ w Γx Λx hs hu hp
        obtain ⟨⟨cs56, e58r⟩, hm59⟩ := hp 7 rfl
        have e58 : ρ 36 = .agg cs56.toArray := e58r
        rw [e58r] at hm59
        have hs := hs.memo1 (it := vl t_api_Effect x45 (.agg cs56.toArray)) (List.mem_append.2 (.inl (hm59 _ (List.mem_of_getElem? (i := 0) rfl))))
        have hl57 := hs.agglen (n := 5) 0 rfl rfl rfl
        refine WL.buildSliceB (ys := [x45]) (n := 1) (vs := [(0, .agg cs56.toArray)]) (cs := cs56) hs ⟨⟨rfl, e58⟩, trivial⟩ (bls PS39 (by decide) (by simp [fillS, fillL, Value.cells, hl57])) (fun ok hA => (Cells.one (T := t_api_Effect) (R_agg (hA.get 0 rfl) rfl))) rfl (by decide) (fun a49 w hBl hs => ?_)
        have hs := hs.add (it := vl (tSlice t_api_Effect) [x45] (.slice a49 ([x45]).length 1)) fun ok hA => hA.get 0 rfl
        exact WL.nil ⟨rfl, _, rfl, ⟨(a49, 1), rfl⟩, hs.cutG 1 2⟩
      · intro ρ w hs hu60 hp
        obtain ⟨⟨⟨⟨⟨⟨⟨⟨⟨_, hp0_⟩, hp1_⟩, hp2_⟩, hp3_⟩, hp4_⟩, hp5_⟩, hp6_⟩, hp7_⟩, hp8_⟩ := hp
        have hs : St ok (bz w0) w [vl (tSlice t_api_Effect) [x45] (ρ 37), vl t_api_Effect x45 (ρ 36)] [own t_api_Effect 67 (.slice a32 n34 c33) x31, blk g7 41 [.int .i64 x1, .int .i64 x2, .int .i64 0, .slice a32 n34 c33], blk g5 41 [.int .i64 0, .int .i64 0, .int .i64 0, .slice none 0 0]] := hs
        obtain ⟨⟨a61, c62⟩, e63⟩ := hp8_
        have e63 : ρ 37 = .slice a61 ([x45]).length c62 := e63
        try rw [e63] at hs
        obtain ⟨cs64, e66⟩ := hp7_
        have e66 : ρ 36 = .agg cs64.toArray := e66
        try rw [e66] at hs
        have e67 : ρ 35 = .int .i64 x43 := hp6_
        have e68 : ρ 34 = .int .i64 x42 := hp5_
        have e69 : ρ 33 = .int .i64 x30 := hp4_
        have e70 : ρ 32 = .int .i64 x41 := hp3_
        have e71 : ρ 31 = .int .i64 x3 := hp2_
        have e72 : ρ 30 = .slice a32 n34 c33 := hp1_
        have e73 : ρ 29 = .pointer (some ⟨g7, 3, none⟩) := hp0_
        have hl65 := hs.agglen (n := 5) 1 rfl rfl rfl
        refine WA.step [9] (by kernel_rfl) (by simp) ⟨?_, trivial⟩
        obtain ⟨x74, hxx74, hf⟩ := bindE hf
        obtain ⟨hbx74, hex74⟩ := appE hxx74
        refine WL.appendS (zs := x74) hs 0 rfl 0 rfl UN39 UN39 EI67 e72 e63 hbx74 (by omega) hex74 (fun v75 w hs => ?_)
        obtain ⟨a76, n78, c77, rfl⟩ := hs.ownv3 0 rfl
        refine WL.nil ⟨rfl, _, rfl, ?_⟩
        refine WA.step [10] (by kernel_rfl) (by simp) ⟨?_, trivial⟩
        refine WL.fieldAddr (m := 3) ((hu60 7 rfl).trans h29_7) FA41_3 rfl ?_
        refine WL.nil ⟨rfl, _, rfl, ?_⟩
        refine WA.step [11] (by kernel_rfl) (by simp) ⟨?_, trivial⟩
        refine WL.store (vs := [.slice a76 n78 c77]) (cs' := [.int .i64 x1, .int .i64 x2, .int .i64 0, .slice a76 n78 c77]) hs 1 rfl TI39 rfl rfl rfl rfl (ones_of rfl) (Nat.le_of_ble_eq_true rfl) rfl (fun w hs => ?_)
        refine WL.nil ⟨rfl, _, rfl, ?_⟩
        refine WA.done (by kernel_rfl) ?_
        refine hK40 _ _ ?_
        refine W.region ?_
        refine WL.move (v := .int .i64 x30) ((hu60 8 rfl).trans h29_8) ?_
        obtain ⟨x79, ex79, hf⟩ := letE hf
        refine WL.bin (v := .int .i64 x79) rfl rfl (ib_as ex79 (ib_add _ _ _)) ?_
        refine WL.assign (v := .int .i64 x79) rfl ?_
        refine WL.nil ?_
        exact ⟨_, (Option.some.inj hf).symm, a76, c77, n78, ((hu60 2 rfl).trans h29_2), ((hu60 6 rfl).trans h29_6), ((hu60 7 rfl).trans h29_7), rfl, (hs.mask [true, true, true]).pick []⟩
    · refine W.cond_false (bool_tr rfl hc39) ?_
      refine W.exit ?_
      have hr := Option.some.inj hf; subst hr
      have hr := hbbs35 _ rfl; subst hr
      have hf := hfs35
      exact Jk26 x31 a32 c33 n34 _ _ h29_6 h29_7 ((hs.mask [true, true, true]).pick []) hf
theorem eslaw00_Update.callc {ok : Nat → Prop} {w0 : World} {x1 : Int} {x2 : Int} {x3 : Int}  {r : api_Update} (hf : eslaw00_Update x1 x2 x3 = some r)  :
    Calls Try.prog 45 #[.int .i64 x1, .int .i64 x2, .int .i64 x3] w0 fun e w' => ∃ v, e = .returned v ∧ ∃ y : List Value, v = .agg y.toArray ∧ St ok (bz w0) w' [vl t_api_Update r (.agg y.toArray)] [] := by
  refine (eslaw00_Update.calls (ok := ok) (w0 := w0) (x1 := x1) (x2 := x2) (x3 := x3) hf).mono ?_
  rintro e w' ⟨v, rfl, ⟨a81, n82, c83⟩, rfl, hs⟩
  obtain rfl := hs.ownLen 0 rfl
  have hs := hs.freezeOwn 0 rfl
  have hs := hs.add (it := vl t_api_Update (⟨r.Client, r.Seq, r.Tag, r.Effects⟩ : api_Update) (.agg [.int .i64 r.Client, .int .i64 r.Seq, .int .i64 r.Tag, .slice a81 (r.Effects).length c83].toArray)) fun ok hA => V_agg (show t_api_Update.R ok _ _ _ from ⟨[.int .i64 r.Client], [.int .i64 r.Seq, .int .i64 r.Tag, .slice a81 (r.Effects).length c83], rfl, rfl, ⟨[.int .i64 r.Seq], [.int .i64 r.Tag, .slice a81 (r.Effects).length c83], rfl, rfl, ⟨[.int .i64 r.Tag], [.slice a81 (r.Effects).length c83], rfl, rfl, (R_one (hA.get 0 rfl))⟩⟩⟩) rfl
  exact ⟨_, rfl, [.int .i64 r.Client, .int .i64 r.Seq, .int .i64 r.Tag, .slice a81 (r.Effects).length c83], rfl, hs.pick [0]⟩
/-! elasticstore/elasticstorelaw00.Updates: function 19 -/
theorem eslaw00_Updates.calls {ok : Nat → Prop} {w0 : World} {x1 : List Int} {a2 : Option Addr} {c3 : Nat} {r : List api_Update} (hf : eslaw00_Updates x1 = some r) (i0 : (vl (tSlice (tInt .i64)) x1 (.slice a2 x1.length c3)).holds ok w0) :
    Calls Try.prog 19 #[.slice a2 x1.length c3] w0 fun e w' => ∃ v, e = .returned v ∧ ∃ y : (Option Addr × Nat × Nat), v = .slice y.1 y.2.1 y.2.2 ∧ St ok (bz w0) w' [] [own t_api_Update 41 (.slice y.1 y.2.1 y.2.2) r] := by
  unfold eslaw00_Updates at hf
  refine calls_of_W (fn := Try.f19) (N := 48) Try.func19 rfl Try.ntmps19 rfl ?_
  have hs : St ok (bz w0) w0 [vl (tSlice (tInt .i64)) x1 (.slice a2 x1.length c3)] [] := St.init (All.cons i0 All.nil)
  clear i0
  refine W.seqK fun K4 hK4 => ?_
  refine W.region ?_
  refine WL.assign (v := .slice none 0 0) rfl ?_
  refine WL.nil ?_
  refine hK4 _ _ ?_
  refine W.seqK fun K5 hK5 => ?_
  refine W.region ?_
  refine WL.assign (v := .slice none 0 0) rfl ?_
  refine WL.nil ?_
  refine hK5 _ _ ?_
  refine W.seqK fun K6 hK6 => ?_
  have hs := hs.ownNil t_api_Update 41
  have Jk12 : ∀ (x8 : List api_Update) (a9 : Option Addr) (c10 : Nat) (n11 : Nat) (ρ : Env) (w : World), ρ 3 = .slice a9 n11 c10 → St ok (bz w0) w [] [own t_api_Update 41 (.slice a9 n11 c10) x8] → eslaw00_Updates.j1 x8 = some r → K6 ρ w := by
    intro x8 a9 c10 n11 ρ w h7_3 hs hf
    refine hK6 _ _ ?_
    unfold eslaw00_Updates.j1 at hf
    refine W.seqK fun K13 hK13 => ?_
    refine W.region ?_
    refine WL.move (v := .slice a9 n11 c10) h7_3 ?_
    refine WL.assign (v := .slice a9 n11 c10) rfl ?_
    refine WL.nil ?_
    refine hK13 _ _ ?_
    refine W.ret ?_
    have hr := Option.some.inj hf; subst hr
    exact ⟨_, resOk_one rfl rfl, (a9, n11, c10), rfl, (hs.mask [true]).pick []⟩
  refine W.seqK fun K14 hK14 => ?_
  refine W.region ?_
  refine WL.assign (v := .int .i64 0) rfl ?_
  refine WL.nil ?_
  refine hK14 _ _ ?_
  refine W.block ?_
  obtain ⟨bs21, hbs21, hfs21⟩ := bindE hf
  refine W.loop hbs21 (fun s ρ w => match s with | (x16, x20) => ∃ (a17 : Option Addr), ∃ (c18 : Nat), ∃ (n19 : Nat), ρ 0 = .slice a2 x1.length c3 ∧ ρ 3 = .slice a17 n19 c18 ∧ ρ 4 = .int .i64 x20 ∧ St ok (bz w0) w [vl (tSlice (tInt .i64)) x1 (.slice a2 x1.length c3)] [own t_api_Update 41 (.slice a17 n19 c18) x16]) ⟨none, 0, 0, rfl, rfl, rfl, (hs.mask [true]).pick [0]⟩ ?_
  intro s ρ w os21 hI hf hbbs21
  obtain ⟨x16, x20⟩ := s
  obtain ⟨a17, c18, n19, h15_0, h15_3, h15_4, hs⟩ := hI
  unfold eslaw00_Updates.l2 at hf
  refine W.seqK fun K22 hK22 => ?_
  refine W.seqK fun K23 hK23 => ?_
  refine W.region ?_
  refine WL.move (v := .int .i64 x20) h15_4 ?_
  refine WL.bin (v := .bool (decide (x20 < 3))) rfl rfl (ib_lss _ _ _) ?_
  refine WL.nil ?_
  refine hK23 _ _ ?_
  rcases iteE hf with ⟨hc24, hf⟩ | ⟨hc24, hf⟩
  · refine W.cond_true (bool_tr rfl hc24) ?_
    refine W.skip ?_
    refine hK22 _ _ ?_
    refine W.seqK fun K25 hK25 => ?_
    have Jk31 : ∀ (x27 : List api_Update) (a28 : Option Addr) (c29 : Nat) (n30 : Nat) (ρ : Env) (w : World), ρ 0 = .slice a2 x1.length c3 → ρ 3 = .slice a28 n30 c29 → ρ 4 = .int .i64 x20 → St ok (bz w0) w [vl (tSlice (tInt .i64)) x1 (.slice a2 x1.length c3)] [own t_api_Update 41 (.slice a28 n30 c29) x27] → eslaw00_Updates.j2 x20 x27 = some os21 → K25 ρ w := by
      intro x27 a28 c29 n30 ρ w h26_0 h26_3 h26_4 hs hf
      refine hK25 _ _ ?_
      unfold eslaw00_Updates.j2 at hf
      refine W.region ?_
      refine WL.move (v := .int .i64 x20) h26_4 ?_
      obtain ⟨x32, ex32, hf⟩ := letE hf
      refine WL.bin (v := .int .i64 x32) rfl rfl (ib_as ex32 (ib_add _ _ _)) ?_
      refine WL.assign (v := .int .i64 x32) rfl ?_
      refine WL.nil ?_
      exact ⟨_, (Option.some.inj hf).symm, a28, c29, n30, h26_0, h26_3, rfl, (hs.mask [true]).pick [0]⟩
    refine W.block ?_
    refine W.seqK fun K33 hK33 => ?_
    refine W.region ?_
    refine WL.assign (v := .int .i64 0) rfl ?_
    refine WL.nil ?_
    refine hK33 _ _ ?_
    refine W.seqK fun K34 hK34 => ?_
    refine W.region ?_
    refine WL.assign (v := .int .i64 0) rfl ?_
    refine WL.nil ?_
    refine hK34 _ _ ?_
    refine W.block ?_
    obtain ⟨bs42, hbs42, hfs42⟩ := bindE hf
    refine W.loop hbs42 (fun s ρ w => match s with | (x36, x40, x41) => ∃ (a37 : Option Addr), ∃ (c38 : Nat), ∃ (n39 : Nat), ρ 0 = .slice a2 x1.length c3 ∧ ρ 3 = .slice a37 n39 c38 ∧ ρ 4 = .int .i64 x20 ∧ ρ 5 = .int .i64 x40 ∧ ρ 6 = .int .i64 x41 ∧ St ok (bz w0) w [vl (tSlice (tInt .i64)) x1 (.slice a2 x1.length c3)] [own t_api_Update 41 (.slice a37 n39 c38) x36]) ⟨a17, c18, n19, h15_0, h15_3, h15_4, rfl, rfl, (hs.mask [true]).pick [0]⟩ ?_
    intro s ρ w os42 hI hf hbbs42
    obtain ⟨x36, x40, x41⟩ := s
    obtain ⟨a37, c38, n39, h35_0, h35_3, h35_4, h35_5, h35_6, hs⟩ := hI
    unfold eslaw00_Updates.l1 at hf
    refine W.seqK fun K43 hK43 => ?_
    refine W.seqK fun K44 hK44 => ?_
    have Jk47 : ∀ (x46 : Bool) (ρ : Env) (w : World), ρ 0 = .slice a2 x1.length c3 → ρ 3 = .slice a37 n39 c38 → ρ 4 = .int .i64 x20 → ρ 5 = .int .i64 x40 → ρ 6 = .int .i64 x41 → ρ 18 = .bool x46 → St ok (bz w0) w [vl (tSlice (tInt .i64)) x1 (.slice a2 x1.length c3)] [own t_api_Update 41 (.slice a37 n39 c38) x36] → eslaw00_Updates.j5 x1 x20 x36 x40 x41 x46 = some os42 → K44 ρ w := by
      intro x46 ρ w h45_0 h45_3 h45_4 h45_5 h45_6 h45_18 hs hf
      refine hK44 _ _ ?_
      unfold eslaw00_Updates.j5 at hf
      rcases iteE hf with ⟨hc48, hf⟩ | ⟨hc48, hf⟩
      · refine W.cond_true (bool_tr h45_18 hc48) ?_
        refine W.skip ?_
        refine hK43 _ _ ?_
        refine W.seqK fun K49 hK49 => ?_
        have Jk56 : ∀ (x51 : List api_Update) (x55 : Int) (a52 : Option Addr) (c53 : Nat) (n54 : Nat) (ρ : Env) (w : World), ρ 0 = .slice a2 x1.length c3 → ρ 3 = .slice a52 n54 c53 → ρ 4 = .int .i64 x20 → ρ 5 = .int .i64 x55 → ρ 6 = .int .i64 x41 → St ok (bz w0) w [vl (tSlice (tInt .i64)) x1 (.slice a2 x1.length c3)] [own t_api_Update 41 (.slice a52 n54 c53) x51] → eslaw00_Updates.j3 x41 x51 x55 = some os42 → K49 ρ w := by
          intro x51 x55 a52 c53 n54 ρ w h50_0 h50_3 h50_4 h50_5 h50_6 hs hf
          refine hK49 _ _ ?_
          unfold eslaw00_Updates.j3 at hf
          refine W.region ?_
          refine WL.move (v := .int .i64 x41) h50_6 ?_
          obtain ⟨x57, ex57, hf⟩ := letE hf
          refine WL.bin (v := .int .i64 x57) rfl rfl (ib_as ex57 (ib_add _ _ _)) ?_
          refine WL.assign (v := .int .i64 x57) rfl ?_
          refine WL.nil ?_
          exact ⟨_, (Option.some.inj hf).symm, a52, c53, n54, h50_0, h50_3, h50_4, h50_5, rfl, (hs.mask [true]).pick [0]⟩
        refine W.block ?_
        refine W.seqK fun K58 hK58 => ?_
        have Jk61 : ∀ (x60 : Bool) (ρ : Env) (w : World), ρ 0 = .slice a2 x1.length c3 → ρ 3 = .slice a37 n39 c38 → ρ 4 = .int .i64 x20 → ρ 5 = .int .i64 x40 → ρ 6 = .int .i64 x41 → ρ 31 = .bool x60 → St ok (bz w0) w [vl (tSlice (tInt .i64)) x1 (.slice a2 x1.length c3)] [own t_api_Update 41 (.slice a37 n39 c38) x36] → eslaw00_Updates.j4 x1 x20 x36 x40 x41 x60 = some os42 → K58 ρ w := by
          intro x60 ρ w h59_0 h59_3 h59_4 h59_5 h59_6 h59_31 hs hf
          refine hK58 _ _ ?_
          unfold eslaw00_Updates.j4 at hf
          rcases iteE hf with ⟨hc62, hf⟩ | ⟨hc62, hf⟩
          · refine W.cond_true (bool_tr h59_31 hc62) ?_
            refine W.seqK fun K63 hK63 => ?_
            refine W.region ?_
            refine WL.move (v := .int .i64 x40) h59_5 ?_
            obtain ⟨x64, ex64, hf⟩ := letE hf
            refine WL.bin (v := .int .i64 x64) rfl rfl (ib_as ex64 (ib_add _ _ _)) ?_
            refine WL.assign (v := .int .i64 x64) rfl ?_
            refine WL.nil ?_
            refine hK63 _ _ ?_
            refine W.region ?_
            refine WL.move (v := .slice a37 n39 c38) h59_3 ?_
            refine WL.move (v := .int .i64 x20) h59_4 ?_
            obtain ⟨x65, ex65, hf⟩ := letE hf
            refine WL.bin (v := .int .i64 x65) rfl rfl (ib_as ex65 (ib_add _ _ _)) ?_
            refine WL.move (v := .int .i64 x64) rfl ?_
            refine WL.move (v := .slice a2 x1.length c3) h59_0 ?_
            refine WL.move (v := .int .i64 x41) h59_6 ?_
            obtain ⟨x66, hxx66, hf⟩ := bindE hf
            refine WL.indexAddr hs 0 rfl UN35 TI3 rfl rfl hxx66 (fun ad67 hs => ?_)
            refine WL.loadP hs 0 rfl TI3 (.inr rfl) rfl (fun v68 hs => ?_)
            obtain rfl := hs.int 0 rfl
            obtain ⟨x69, hxx69, hf⟩ := bindE hf
            refine WL.call (vs := [.int .i64 x66, .int .i64 1099511627776]) hs FN24 ⟨rfl, ⟨rfl, trivial⟩⟩ (fun ok hA => eslaw00_Index.calls (x1 := x66) (x2 := 1099511627776) hxx69) ?_
            rintro _ w hs
            obtain ⟨x70, ex70, hf⟩ := letE hf
            refine WL.bin (v := .int .i64 x70) rfl rfl (ib_as ex70 (ib_quo _ _ _ (by decide))) ?_
            obtain ⟨x71, hxx71, hf⟩ := bindE hf
            refine WL.call (vs := [.int .i64 x65, .int .i64 x64, .int .i64 x70]) hs FN45 ⟨rfl, ⟨rfl, ⟨rfl, trivial⟩⟩⟩ (fun ok hA => eslaw00_Update.calls (x1 := x65) (x2 := x64) (x3 := x70) hxx71) ?_
            rintro ⟨a72, n73, c74⟩ w hs
            refine WL.buildSlice (n := 1) (vs := [(0, .agg ([.int .i64 x71.Client, .int .i64 x71.Seq, .int .i64 x71.Tag, .slice a72 n73 c74] : List Value).toArray)]) (cs := [.int .i64 x71.Client, .int .i64 x71.Seq, .int .i64 x71.Tag, .slice a72 n73 c74]) hs ⟨⟨rfl, rfl⟩, trivial⟩ (bls PS23 (by decide) rfl) (fun g75 w hs => ?_)
            obtain rfl := hs.ownLen 1 rfl
            have hs := hs.freezeOwn 1 rfl
            obtain ⟨x76, hxx76, hf⟩ := bindE hf
            obtain ⟨hbx76, hex76⟩ := appE hxx76
            refine WL.append (ys := [(⟨x71.Client, x71.Seq, x71.Tag, x71.Effects⟩ : api_Update)]) (zs := x76) hs 1 rfl 0 rfl UN23 EI41 rfl rfl (fun ok hA => (Cells.one (T := t_api_Update) (show t_api_Update.R ok _ (⟨x71.Client, x71.Seq, x71.Tag, x71.Effects⟩ : api_Update) _ from ⟨[.int .i64 x71.Client], [.int .i64 x71.Seq, .int .i64 x71.Tag, .slice a72 (x71.Effects).length c74], rfl, rfl, ⟨[.int .i64 x71.Seq], [.int .i64 x71.Tag, .slice a72 (x71.Effects).length c74], rfl, rfl, ⟨[.int .i64 x71.Tag], [.slice a72 (x71.Effects).length c74], rfl, rfl, (R_one (hA.get 0 rfl))⟩⟩⟩))) hbx76 (by omega) hex76 (fun v77 w hs => ?_)
            obtain ⟨a78, n80, c79, rfl⟩ := hs.ownv3 1 rfl
            refine WL.assign (v := .slice a78 n80 c79) rfl ?_
            refine WL.nil ?_
            exact Jk56 x76 x64 a78 c79 n80 _ _ h59_0 rfl h59_4 rfl h59_6 ((hs.mask [false, true]).pick [3]) hf
          · refine W.cond_false (bool_tr h59_31 hc62) ?_
            refine W.skip ?_
            exact Jk56 x36 x40 a37 c38 n39 _ _ h59_0 h59_3 h59_4 h59_5 h59_6 ((hs.mask [true]).pick [0]) hf
        refine W.region ?_
        refine WL.move (v := .slice a2 x1.length c3) h45_0 ?_
        refine WL.move (v := .int .i64 x41) h45_6 ?_
        obtain ⟨x81, hxx81, hf⟩ := bindE hf
        refine WL.indexAddr hs 0 rfl UN35 TI3 rfl rfl hxx81 (fun ad82 hs => ?_)
        refine WL.loadP hs 0 rfl TI3 (.inr rfl) rfl (fun v83 hs => ?_)
        obtain rfl := hs.int 0 rfl
        obtain ⟨x84, hxx84, hf⟩ := bindE hf
        refine WL.call (vs := [.int .i64 x81, .int .i64 3, .int .i64 0]) hs FN44 ⟨rfl, ⟨rfl, ⟨rfl, trivial⟩⟩⟩ (fun ok hA => eslaw00_Digit.calls (x1 := x81) (x2 := 3) (x3 := 0) hxx84) ?_
        rintro _ w hs
        refine WL.move (v := .int .i64 x20) h45_4 ?_
        refine WL.bin (v := .bool (x84 == x20)) rfl rfl (ib_eql _ _ _) ?_
        refine WL.move (v := .bool (x84 == x20)) rfl ?_
        rcases iteE hf with ⟨hc85, hf⟩ | ⟨hc85, hf⟩
        · refine WL.move (v := .int .i64 x40) h45_5 ?_ (hg := (wanted_of rfl rfl (bool_tr rfl hc85)).trans rfl)
          refine WL.bin (v := .bool (decide (x40 < 8))) rfl rfl (ib_lss _ _ _) ?_ (hg := (wanted_of rfl rfl (bool_tr rfl hc85)).trans rfl)
          refine WL.pickT (v := .bool (decide (x40 < 8))) (bool_tr rfl hc85) rfl ?_
          refine WL.nil ?_
          exact Jk61 (decide (x40 < 8)) _ _ h45_0 h45_3 h45_4 h45_5 h45_6 rfl ((hs.mask [true]).pick [2]) hf
        · refine WL.pass ((wanted_of rfl rfl (bool_tr rfl hc85)).trans rfl) rfl ?_
          refine WL.pass ((wanted_of rfl rfl (bool_tr rfl hc85)).trans rfl) rfl ?_
          refine WL.pickF (v := .bool false) (bool_tr rfl hc85) rfl ?_
          refine WL.nil ?_
          exact Jk61 false _ _ h45_0 h45_3 h45_4 h45_5 h45_6 rfl ((hs.mask [true]).pick [2]) hf
      · refine W.cond_false (bool_tr h45_18 hc48) ?_
        refine W.exit ?_
        have hr := Option.some.inj hf; subst hr
        have hr := hbbs42 _ rfl; subst hr
        have hf := hfs42
        exact Jk31 x36 a37 c38 n39 _ _ h45_0 h45_3 h45_4 ((hs.mask [true]).pick [0]) hf
    refine W.region ?_
    refine WL.move (v := .int .i64 x41) h35_6 ?_
    refine WL.move (v := .slice a2 x1.length c3) h35_0 ?_
    refine WL.len (v := .slice a2 x1.length c3) rfl (len_slice UN35) ?_
    refine WL.bin (v := .bool (decide (x41 < (x1.length : Int)))) rfl rfl (ib_lss _ _ _) ?_
    refine WL.move (v := .bool (decide (x41 < (x1.length : Int)))) rfl ?_
    rcases iteE hf with ⟨hc86, hf⟩ | ⟨hc86, hf⟩
    · refine WL.move (v := .int .i64 x41) h35_6 ?_ (hg := (wanted_of rfl rfl (bool_tr rfl hc86)).trans rfl)
      refine WL.bin (v := .bool (decide (x41 < 24))) rfl rfl (ib_lss _ _ _) ?_ (hg := (wanted_of rfl rfl (bool_tr rfl hc86)).trans rfl)
      refine WL.pickT (v := .bool (decide (x41 < 24))) (bool_tr rfl hc86) rfl ?_
      refine WL.nil ?_
      exact Jk47 (decide (x41 < 24)) _ _ h35_0 h35_3 h35_4 h35_5 h35_6 rfl ((hs.mask [true]).pick [0]) hf
    · refine WL.pass ((wanted_of rfl rfl (bool_tr rfl hc86)).trans rfl) rfl ?_
      refine WL.pass ((wanted_of rfl rfl (bool_tr rfl hc86)).trans rfl) rfl ?_
      refine WL.pickF (v := .bool false) (bool_tr rfl hc86) rfl ?_
      refine WL.nil ?_
      exact Jk47 false _ _ h35_0 h35_3 h35_4 h35_5 h35_6 rfl ((hs.mask [true]).pick [0]) hf
  · refine W.cond_false (bool_tr rfl hc24) ?_
    refine W.exit ?_
    have hr := Option.some.inj hf; subst hr
    have hr := hbbs21 _ rfl; subst hr
    have hf := hfs21
    exact Jk12 x16 a17 c18 n19 _ _ h15_3 ((hs.mask [true]).pick []) hf
theorem eslaw00_Updates.callc {ok : Nat → Prop} {w0 : World} {x1 : List Int} {a2 : Option Addr} {c3 : Nat} {r : List api_Update} (hf : eslaw00_Updates x1 = some r) (i0 : (vl (tSlice (tInt .i64)) x1 (.slice a2 x1.length c3)).holds ok w0) :
    Calls Try.prog 19 #[.slice a2 x1.length c3] w0 fun e w' => ∃ v, e = .returned v ∧ ∃ y : (Option Addr × Nat), v = .slice y.1 r.length y.2 ∧ St ok (bz w0) w' [vl (tSlice t_api_Update) r (.slice y.1 r.length y.2)] [] := by
  refine (eslaw00_Updates.calls (ok := ok) (w0 := w0) (x1 := x1) hf i0).mono ?_
  rintro e w' ⟨v, rfl, ⟨a89, n90, c91⟩, rfl, hs⟩
  obtain rfl := hs.ownLen 0 rfl
  have hs := hs.freezeOwn 0 rfl
  exact ⟨_, rfl, (a89, c91), rfl, hs.pick [0]⟩
end Go.Proofs.Ytlbcfjblpopcnaa
