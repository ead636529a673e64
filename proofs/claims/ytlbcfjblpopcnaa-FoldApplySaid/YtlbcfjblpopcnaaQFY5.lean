/- What the row leans on, as few texts. -/
import Derived.Test.YtlbcfjblpopcnaaQFY2
import Derived.Test.YtlbcfjblpopcnaaQFY3
import Derived.Test.YtlbcfjblpopcnaaQFY1
import Derived.Test.YtlbcfjblpopcnaaQFY4
set_option linter.unusedVariables false
set_option linter.unusedSimpArgs false
namespace Go.Proofs.Ytlbcfjblpopcnaa
open Go Go.RowKit Go.Proofs.YtlbcfjblpopcnaaL
set_option maxRecDepth 100000
set_option maxHeartbeats 4000000
theorem eslaw00_Index.calls {ok : Nat → Prop} {w0 : World} {x1 : Int} {x2 : Int}  {r : Int} (hf : eslaw00_Index x1 x2 = some r)  :
    Calls Try.prog 24 #[.int .i64 x1, .int .i64 x2] w0 fun e w' => ∃ v, e = .returned v ∧ ∃ y : Unit, v = .int .i64 r ∧ St ok (bz w0) w' [] [] := by
  unfold eslaw00_Index at hf
  refine calls_of_W (fn := Try.f24) (N := 14) Try.func24 rfl Try.ntmps24 rfl ?_
  have hs : St ok (bz w0) w0 [] [] := St.init All.nil
  refine W.seqK fun K3 hK3 => ?_
  refine W.region ?_
  refine WL.assign (v := .int .i64 0) rfl ?_
  refine WL.nil ?_
  refine hK3 _ _ ?_
  refine W.seqK fun K4 hK4 => ?_
  refine W.seqK fun K5 hK5 => ?_
  refine W.region ?_
  refine WL.move (v := .int .i64 x2) rfl ?_
  refine WL.bin (v := .bool (decide (x2 < 1))) rfl rfl (ib_lss _ _ _) ?_
  refine WL.nil ?_
  refine hK5 _ _ ?_
  rcases iteE hf with ⟨hc6, hf⟩ | ⟨hc6, hf⟩
  {
  refine W.cond_true (bool_tr rfl hc6) ?_
  refine W.seqK fun K7 hK7 => ?_
  refine W.region ?_
  refine WL.assign (v := .int .i64 0) rfl ?_
  refine WL.nil ?_
  refine hK7 _ _ ?_
  refine W.ret ?_
  have hr := Option.some.inj hf; subst hr
  exact ⟨_, resOk_one rfl rfl, (), rfl, (hs.mask []).pick []⟩ }
  {
  refine W.cond_false (bool_tr rfl hc6) ?_
  refine W.skip ?_
  refine hK4 _ _ ?_
  refine W.seqK fun K8 hK8 => ?_
  refine W.region ?_
  refine WL.move (v := .int .i64 x1) rfl ?_
  refine WL.move (v := .int .i64 x2) rfl ?_
  obtain ⟨hn9, hf⟩ := guardE hf
  refine WL.bin (v := .int .i64 (Int.tmod x1 x2)) rfl rfl (ib_rem _ _ _ hn9) ?_
  refine WL.move (v := .int .i64 x2) rfl ?_
  obtain ⟨x10, ex10, hf⟩ := letE hf
  refine WL.bin (v := .int .i64 x10) rfl rfl (ib_as ex10 (ib_add _ _ _)) ?_
  refine WL.move (v := .int .i64 x2) rfl ?_
  obtain ⟨hn11, hf⟩ := guardE hf
  refine WL.bin (v := .int .i64 (Int.tmod x10 x2)) rfl rfl (ib_rem _ _ _ hn11) ?_
  refine WL.assign (v := .int .i64 (Int.tmod x10 x2)) rfl ?_
  refine WL.nil ?_
  refine hK8 _ _ ?_
  refine W.ret ?_
  have hr := Option.some.inj hf; subst hr
  exact ⟨_, resOk_one rfl rfl, (), rfl, (hs.mask []).pick []⟩ }
theorem eslaw00_Digit.calls {ok : Nat → Prop} {w0 : World} {x1 : Int} {x2 : Int} {x3 : Int}  {r : Int} (hf : eslaw00_Digit x1 x2 x3 = some r)  :
    Calls Try.prog 44 #[.int .i64 x1, .int .i64 x2, .int .i64 x3] w0 fun e w' => ∃ v, e = .returned v ∧ ∃ y : Unit, v = .int .i64 r ∧ St ok (bz w0) w' [] [] := by
  unfold eslaw00_Digit at hf
  refine calls_of_W (fn := Try.f44) (N := 22) Try.func44 rfl Try.ntmps44 rfl ?_
  have hs : St ok (bz w0) w0 [] [] := St.init All.nil
  refine W.seqK fun K4 hK4 => ?_
  refine W.region ?_
  refine WL.assign (v := .int .i64 0) rfl ?_
  refine WL.nil ?_
  refine hK4 _ _ ?_
  refine W.seqK fun K5 hK5 => ?_
  refine W.region ?_
  refine WL.move (v := .int .i64 x1) rfl ?_
  obtain ⟨x6, hxx6, hf⟩ := bindE hf
  refine WL.call (vs := [.int .i64 x1, .int .i64 1099511627776]) hs FN24 ⟨rfl, ⟨rfl, trivial⟩⟩ (fun ok hA => eslaw00_Index.calls (x1 := x1) (x2 := 1099511627776) hxx6) ?_
  rintro _ w hs
  refine WL.assign (v := .int .i64 x6) rfl ?_
  refine WL.nil ?_
  refine hK5 _ _ ?_
  refine W.seqK fun K7 hK7 => ?_
  have Jk10 : ∀ (x9 : Int) (ρ : Env) (w : World), ρ 1 = .int .i64 x2 → ρ 7 = .int .i64 x9 → St ok (bz w0) w [] [] → eslaw00_Digit.j1 x2 x9 = some r → K7 ρ w := by
    intro x9 ρ w h8_1 h8_7 hs hf
    refine hK7 _ _ ?_
    unfold eslaw00_Digit.j1 at hf
    refine W.seqK fun K11 hK11 => ?_
    refine W.region ?_
    refine WL.move (v := .int .i64 x9) h8_7 ?_
    refine WL.move (v := .int .i64 x2) h8_1 ?_
    obtain ⟨hn12, hf⟩ := guardE hf
    refine WL.bin (v := .int .i64 (Int.tmod x9 x2)) rfl rfl (ib_rem _ _ _ hn12) ?_
    refine WL.assign (v := .int .i64 (Int.tmod x9 x2)) rfl ?_
    refine WL.nil ?_
    refine hK11 _ _ ?_
    refine W.ret ?_
    have hr := Option.some.inj hf; subst hr
    exact ⟨_, resOk_one rfl rfl, (), rfl, (hs.mask []).pick []⟩
  refine W.seqK fun K13 hK13 => ?_
  refine W.region ?_
  refine WL.assign (v := .int .i64 0) rfl ?_
  refine WL.nil ?_
  refine hK13 _ _ ?_
  refine W.block ?_
  obtain ⟨bs17, hbs17, hfs17⟩ := bindE hf
  refine W.loop hbs17 (fun s ρ w => match s with | (x15, x16) => ρ 1 = .int .i64 x2 ∧ ρ 2 = .int .i64 x3 ∧ ρ 7 = .int .i64 x15 ∧ ρ 8 = .int .i64 x16 ∧ St ok (bz w0) w [] []) ⟨rfl, rfl, rfl, rfl, (hs.mask []).pick []⟩ ?_
  intro s ρ w os17 hI hf hbbs17
  obtain ⟨x15, x16⟩ := s
  obtain ⟨h14_1, h14_2, h14_7, h14_8, hs⟩ := hI
  unfold eslaw00_Digit.l1 at hf
  refine W.seqK fun K18 hK18 => ?_
  refine W.seqK fun K19 hK19 => ?_
  refine W.region ?_
  refine WL.move (v := .int .i64 x16) h14_8 ?_
  refine WL.move (v := .int .i64 x3) h14_2 ?_
  refine WL.bin (v := .bool (decide (x16 < x3))) rfl rfl (ib_lss _ _ _) ?_
  refine WL.nil ?_
  refine hK19 _ _ ?_
  rcases iteE hf with ⟨hc20, hf⟩ | ⟨hc20, hf⟩
  {
  refine W.cond_true (bool_tr rfl hc20) ?_
  refine W.skip ?_
  refine hK18 _ _ ?_
  refine W.seqK fun K21 hK21 => ?_
  refine W.block ?_
  refine W.region ?_
  refine WL.move (v := .int .i64 x15) h14_7 ?_
  refine WL.move (v := .int .i64 x2) h14_1 ?_
  obtain ⟨hn23, hf⟩ := guardE hf
  obtain ⟨x22, ex22, hf⟩ := letE hf
  refine WL.bin (v := .int .i64 x22) rfl rfl (ib_as ex22 (ib_quo _ _ _ hn23)) ?_
  refine WL.assign (v := .int .i64 x22) rfl ?_
  refine WL.nil ?_
  refine hK21 _ _ ?_
  refine W.region ?_
  refine WL.move (v := .int .i64 x16) h14_8 ?_
  obtain ⟨x24, ex24, hf⟩ := letE hf
  refine WL.bin (v := .int .i64 x24) rfl rfl (ib_as ex24 (ib_add _ _ _)) ?_
  refine WL.assign (v := .int .i64 x24) rfl ?_
  refine WL.nil ?_
  exact ⟨_, (Option.some.inj hf).symm, h14_1, h14_2, rfl, rfl, (hs.mask []).pick []⟩ }
  {
  refine W.cond_false (bool_tr rfl hc20) ?_
  refine W.exit ?_
  have hr := Option.some.inj hf; subst hr
  have hr := hbbs17 _ rfl; subst hr
  have hf := hfs17
  exact Jk10 x15 _ _ h14_1 h14_7 ((hs.mask []).pick []) hf }
theorem eslaw00_name.calls {ok : Nat → Prop} {w0 : World} {x1 : Int}  {r : List UInt8} (hf : eslaw00_name x1 = some r)  :
    Calls Try.prog 81 #[.int .i64 x1] w0 fun e w' => ∃ v, e = .returned v ∧ ∃ y : Unit, v = bstr r ∧ St ok (bz w0) w' [] [] := by
  unfold eslaw00_name at hf
  refine calls_of_W (fn := Try.f81) (N := 8) Try.func81 rfl Try.ntmps81 rfl ?_
  have hs : St ok (bz w0) w0 [] [] := St.init All.nil
  refine W.seqK fun K2 hK2 => ?_
  refine W.region ?_
  refine WL.assign (v := bstr ([] : List UInt8)) rfl ?_
  refine WL.nil ?_
  refine hK2 _ _ ?_
  refine W.seqK fun K3 hK3 => ?_
  refine W.region ?_
  refine WL.buildSlice (n := 4) (vs := [(0, bstr ([97] : List UInt8)), (1, bstr ([98] : List UInt8)), (2, bstr ([99] : List UInt8)), (3, bstr ([120, 49] : List UInt8))]) (cs := [bstr ([97] : List UInt8), bstr ([98] : List UInt8), bstr ([99] : List UInt8), bstr ([120, 49] : List UInt8)]) hs ⟨⟨rfl, rfl⟩, ⟨⟨rfl, rfl⟩, ⟨⟨rfl, rfl⟩, ⟨⟨rfl, rfl⟩, trivial⟩⟩⟩⟩ (bls PS55 (by decide) rfl) (fun g4 w hs => ?_)
  refine WL.move (v := .int .i64 x1) rfl ?_
  obtain ⟨x5, hxx5, hf⟩ := bindE hf
  refine WL.call (vs := [.int .i64 x1, .int .i64 4]) hs FN24 ⟨rfl, ⟨rfl, trivial⟩⟩ (fun ok hA => eslaw00_Index.calls (x1 := x1) (x2 := 4) hxx5) ?_
  rintro _ w hs
  have hs := hs.ownLit (A := tStr) (xs := [([97] : List UInt8), ([98] : List UInt8), ([99] : List UInt8), ([120, 49] : List UInt8)]) 0 rfl (fun ok hA => (Cells.app (Cells.one (T := tStr) rfl) (Cells.app (Cells.one (T := tStr) rfl) (Cells.app (Cells.one (T := tStr) rfl) (Cells.one (T := tStr) rfl))))) (Nat.le_of_ble_eq_true rfl)
  have hs := hs.freezeOwn 0 rfl
  obtain ⟨x6, hxx6, hf⟩ := bindE hf
  refine WL.indexAddr hs 0 rfl UN55 TI9 rfl rfl hxx6 (fun ad7 hs => ?_)
  refine WL.loadP hs 0 rfl TI9 (.inr rfl) rfl (fun v8 hs => ?_)
  obtain rfl := hs.str 0 rfl
  refine WL.assign (v := bstr x6) rfl ?_
  refine WL.nil ?_
  refine hK3 _ _ ?_
  refine W.ret ?_
  have hr := Option.some.inj hf; subst hr
  exact ⟨_, resOk_one rfl rfl, (), rfl, (hs.mask []).pick []⟩
theorem eslaw00_Effect.calls {ok : Nat → Prop} {w0 : World} {x1 : Int} {x2 : Bool}  {r : api_Effect} (hf : eslaw00_Effect x1 x2 = some r)  :
    Calls Try.prog 68 #[.int .i64 x1, .bool x2] w0 fun e w' => ∃ v, e = .returned v ∧ ∃ y : List Value, v = .agg y.toArray ∧ St ok (bz w0) w' [vl t_api_Effect r (.agg y.toArray)] [] := by
  unfold eslaw00_Effect at hf
  refine calls_of_W (fn := Try.f68) (N := 51) Try.func68 rfl Try.ntmps68 rfl ?_
  have hs : St ok (bz w0) w0 [] [] := St.init All.nil
  refine W.seqK fun K3 hK3 => ?_
  refine W.region ?_
  refine WL.alloc hs ZV67 (fun g4 w hs => ?_)
  refine WL.nil ?_
  refine hK3 _ _ ?_
  refine W.seqK fun K5 hK5 => ?_
  refine W.region ?_
  refine WL.move (v := .int .i64 x1) rfl ?_
  obtain ⟨x6, hxx6, hf⟩ := bindE hf
  refine WL.call (vs := [.int .i64 x1, .int .i64 4, .int .i64 1]) hs FN44 ⟨rfl, ⟨rfl, ⟨rfl, trivial⟩⟩⟩ (fun ok hA => eslaw00_Digit.calls (x1 := x1) (x2 := 4) (x3 := 1) hxx6) ?_
  rintro _ w hs
  obtain ⟨x7, hxx7, hf⟩ := bindE hf
  refine WL.call (vs := [.int .i64 x6]) hs FN81 ⟨rfl, trivial⟩ (fun ok hA => eslaw00_name.calls (x1 := x6) hxx7) ?_
  rintro _ w hs
  refine WL.move (v := .int .i64 x1) rfl ?_
  obtain ⟨x8, hxx8, hf⟩ := bindE hf
  refine WL.call (vs := [.int .i64 x1, .int .i64 4, .int .i64 2]) hs FN44 ⟨rfl, ⟨rfl, ⟨rfl, trivial⟩⟩⟩ (fun ok hA => eslaw00_Digit.calls (x1 := x1) (x2 := 4) (x3 := 2) hxx8) ?_
  rintro _ w hs
  obtain ⟨x9, hxx9, hf⟩ := bindE hf
  refine WL.call (vs := [.int .i64 x8]) hs FN81 ⟨rfl, trivial⟩ (fun ok hA => eslaw00_name.calls (x1 := x8) hxx9) ?_
  rintro _ w hs
  refine WL.build (vs := [(1, bstr x7), (2, bstr x9)]) (cs := [.int .i64 0, bstr x7, bstr x9, .int .i64 0, bstr []]) ⟨⟨rfl, rfl⟩, ⟨⟨rfl, rfl⟩, trivial⟩⟩ (bld PL67 rfl) ?_
  refine WL.alloc hs ZV67 (fun g10 w hs => ?_)
  refine WL.storeAll (vs := [.int .i64 0, bstr x7, bstr x9, .int .i64 0, bstr []]) hs 0 rfl TI67 rfl rfl rfl rfl (ones_of rfl) rfl (fun w hs => ?_)
  refine WL.nil ?_
  refine hK5 _ _ ?_
  refine W.seqK fun K11 hK11 => ?_
  refine W.region ?_
  refine WL.move (v := .int .i64 x1) rfl ?_
  obtain ⟨x12, hxx12, hf⟩ := bindE hf
  refine WL.call (vs := [.int .i64 x1, .int .i64 16, .int .i64 3]) hs FN44 ⟨rfl, ⟨rfl, ⟨rfl, trivial⟩⟩⟩ (fun ok hA => eslaw00_Digit.calls (x1 := x1) (x2 := 16) (x3 := 3) hxx12) ?_
  rintro _ w hs
  obtain ⟨x13, ex13, hf⟩ := letE hf
  refine WL.bin (v := .int .i64 x13) rfl rfl (ib_as ex13 (ib_sub _ _ _)) ?_
  refine WL.assign (v := .int .i64 x13) rfl ?_
  refine WL.nil ?_
  refine hK11 _ _ ?_
  refine W.seqK fun K14 hK14 => ?_
  have Jk19 : ∀ (x16 : Int) (x17 : Int) (x18 : List UInt8) (ρ : Env) (w : World), ρ 4 = .pointer (some ⟨g4, 0, none⟩) → ρ 5 = .pointer (some ⟨g10, 0, none⟩) → St ok (bz w0) w [] [blk g10 67 [.int .i64 x16, bstr x7, bstr x9, .int .i64 x17, bstr x18], blk g4 67 ([.int .i64 0, bstr [], bstr [], .int .i64 0, bstr []])] → eslaw00_Effect.j1 x7 x9 x16 x17 x18 = some r → K14 ρ w := by
    intro x16 x17 x18 ρ w h15_4 h15_5 hs hf
    refine hK14 _ _ ?_
    unfold eslaw00_Effect.j1 at hf
    refine W.seqK fun K20 hK20 => ?_
    refine W.region ?_
    refine WL.loadN (vs := [.int .i64 x16, bstr x7, bstr x9, .int .i64 x17, bstr x18]) hs 0 rfl TI67 h15_5 rfl rfl ?_
    refine WL.storeAll (vs := [.int .i64 x16, bstr x7, bstr x9, .int .i64 x17, bstr x18]) hs 1 rfl TI67 h15_4 rfl rfl rfl (ones_of rfl) rfl (fun w hs => ?_)
    refine WL.nil ?_
    refine hK20 _ _ ?_
    refine W.ret ?_
    have hr := Option.some.inj hf; subst hr
    have hs := hs.add (it := vl t_api_Effect (⟨x16, x7, x9, x17, x18⟩ : api_Effect) (.agg [.int .i64 x16, bstr x7, bstr x9, .int .i64 x17, bstr x18].toArray)) fun ok hA => V_agg (show t_api_Effect.R ok _ _ _ from ⟨[.int .i64 x16], [bstr x7, bstr x9, .int .i64 x17, bstr x18], rfl, rfl, ⟨[bstr x7], [bstr x9, .int .i64 x17, bstr x18], rfl, rfl, ⟨[bstr x9], [.int .i64 x17, bstr x18], rfl, rfl, ⟨[.int .i64 x17], [bstr x18], rfl, rfl, rfl⟩⟩⟩⟩) rfl
    exact ⟨_, resOk_one rfl (res_all hs 1 rfl TI67 h15_4 rfl), [.int .i64 x16, bstr x7, bstr x9, .int .i64 x17, bstr x18], rfl, (hs.mask []).pick [0]⟩
  refine W.block ?_
  refine W.seqK fun K21 hK21 => ?_
  refine W.region ?_
  refine WL.move (v := .bool x2) rfl ?_
  refine WL.assign (v := .bool x2) rfl ?_
  refine WL.nil ?_
  refine hK21 _ _ ?_
  rcases iteE hf with ⟨hc22, hf⟩ | ⟨hc22, hf⟩
  {
  refine W.cond_true (bool_tr rfl hc22) ?_
  refine W.seqK fun K23 hK23 => ?_
  refine W.region ?_
  refine WL.fieldAddr (m := 0) rfl FA67_0 rfl ?_
  refine WL.store (vs := [.int .i64 1]) (cs' := [.int .i64 1, bstr x7, bstr x9, .int .i64 0, bstr []]) hs 0 rfl TI3 rfl rfl rfl rfl (ones_of rfl) (Nat.le_of_ble_eq_true rfl) rfl (fun w hs => ?_)
  refine WL.nil ?_
  refine hK23 _ _ ?_
  refine W.seqK fun K24 hK24 => ?_
  refine W.region ?_
  refine WL.move (v := .int .i64 x13) rfl ?_
  refine WL.fieldAddr (m := 3) rfl FA67_3 rfl ?_
  refine WL.store (vs := [.int .i64 x13]) (cs' := [.int .i64 1, bstr x7, bstr x9, .int .i64 x13, bstr []]) hs 0 rfl TI2 rfl rfl rfl rfl (ones_of rfl) (Nat.le_of_ble_eq_true rfl) rfl (fun w hs => ?_)
  refine WL.nil ?_
  refine hK24 _ _ ?_
  refine W.region ?_
  refine WL.move (v := .int .i64 x1) rfl ?_
  obtain ⟨x25, hxx25, hf⟩ := bindE hf
  refine WL.call (vs := [.int .i64 x1, .int .i64 4, .int .i64 5]) hs FN44 ⟨rfl, ⟨rfl, ⟨rfl, trivial⟩⟩⟩ (fun ok hA => eslaw00_Digit.calls (x1 := x1) (x2 := 4) (x3 := 5) hxx25) ?_
  rintro _ w hs
  obtain ⟨x26, hxx26, hf⟩ := bindE hf
  refine WL.call (vs := [.int .i64 x25]) hs FN81 ⟨rfl, trivial⟩ (fun ok hA => eslaw00_name.calls (x1 := x25) hxx26) ?_
  rintro _ w hs
  refine WL.fieldAddr (m := 4) rfl FA67_4 rfl ?_
  refine WL.store (vs := [bstr x26]) (cs' := [.int .i64 1, bstr x7, bstr x9, .int .i64 x13, bstr x26]) hs 0 rfl TI9 rfl rfl rfl rfl (ones_of rfl) (Nat.le_of_ble_eq_true rfl) rfl (fun w hs => ?_)
  refine WL.nil ?_
  exact Jk19 1 x13 x26 _ _ rfl rfl ((hs.mask [true, true]).pick []) hf }
  {
  refine W.cond_false (bool_tr rfl hc22) ?_
  refine W.seqK fun K27 hK27 => ?_
  refine W.region ?_
  refine WL.move (v := .int .i64 x1) rfl ?_
  obtain ⟨x28, hxx28, hf⟩ := bindE hf
  refine WL.call (vs := [.int .i64 x1, .int .i64 4, .int .i64 0]) hs FN44 ⟨rfl, ⟨rfl, ⟨rfl, trivial⟩⟩⟩ (fun ok hA => eslaw00_Digit.calls (x1 := x1) (x2 := 4) (x3 := 0) hxx28) ?_
  rintro _ w hs
  refine WL.bin (v := .bool (x28 == 0)) rfl rfl (ib_eql _ _ _) ?_
  refine WL.assign (v := .bool (x28 == 0)) rfl ?_
  refine WL.nil ?_
  refine hK27 _ _ ?_
  rcases iteE hf with ⟨hc29, hf⟩ | ⟨hc29, hf⟩
  {
  refine W.cond_true (bool_tr rfl hc29) ?_
  refine W.seqK fun K30 hK30 => ?_
  refine W.region ?_
  refine WL.fieldAddr (m := 0) rfl FA67_0 rfl ?_
  refine WL.store (vs := [.int .i64 2]) (cs' := [.int .i64 2, bstr x7, bstr x9, .int .i64 0, bstr []]) hs 0 rfl TI3 rfl rfl rfl rfl (ones_of rfl) (Nat.le_of_ble_eq_true rfl) rfl (fun w hs => ?_)
  refine WL.nil ?_
  refine hK30 _ _ ?_
  refine W.region ?_
  refine WL.move (v := .int .i64 x13) rfl ?_
  refine WL.fieldAddr (m := 3) rfl FA67_3 rfl ?_
  refine WL.store (vs := [.int .i64 x13]) (cs' := [.int .i64 2, bstr x7, bstr x9, .int .i64 x13, bstr []]) hs 0 rfl TI2 rfl rfl rfl rfl (ones_of rfl) (Nat.le_of_ble_eq_true rfl) rfl (fun w hs => ?_)
  refine WL.nil ?_
  exact Jk19 2 x13 [] _ _ rfl rfl ((hs.mask [true, true]).pick []) hf }
  {
  refine W.cond_false (bool_tr rfl hc29) ?_
  refine W.seqK fun K31 hK31 => ?_
  refine W.region ?_
  refine WL.move (v := .int .i64 x1) rfl ?_
  obtain ⟨x32, hxx32, hf⟩ := bindE hf
  refine WL.call (vs := [.int .i64 x1, .int .i64 4, .int .i64 0]) hs FN44 ⟨rfl, ⟨rfl, ⟨rfl, trivial⟩⟩⟩ (fun ok hA => eslaw00_Digit.calls (x1 := x1) (x2 := 4) (x3 := 0) hxx32) ?_
  rintro _ w hs
  refine WL.bin (v := .bool (x32 == 1)) rfl rfl (ib_eql _ _ _) ?_
  refine WL.assign (v := .bool (x32 == 1)) rfl ?_
  refine WL.nil ?_
  refine hK31 _ _ ?_
  rcases iteE hf with ⟨hc33, hf⟩ | ⟨hc33, hf⟩
  {
  refine W.cond_true (bool_tr rfl hc33) ?_
  refine W.seqK fun K34 hK34 => ?_
  refine W.region ?_
  refine WL.fieldAddr (m := 0) rfl FA67_0 rfl ?_
  refine WL.store (vs := [.int .i64 3]) (cs' := [.int .i64 3, bstr x7, bstr x9, .int .i64 0, bstr []]) hs 0 rfl TI3 rfl rfl rfl rfl (ones_of rfl) (Nat.le_of_ble_eq_true rfl) rfl (fun w hs => ?_)
  refine WL.nil ?_
  refine hK34 _ _ ?_
  refine W.region ?_
  refine WL.move (v := .int .i64 x13) rfl ?_
  refine WL.fieldAddr (m := 3) rfl FA67_3 rfl ?_
  refine WL.store (vs := [.int .i64 x13]) (cs' := [.int .i64 3, bstr x7, bstr x9, .int .i64 x13, bstr []]) hs 0 rfl TI2 rfl rfl rfl rfl (ones_of rfl) (Nat.le_of_ble_eq_true rfl) rfl (fun w hs => ?_)
  refine WL.nil ?_
  exact Jk19 3 x13 [] _ _ rfl rfl ((hs.mask [true, true]).pick []) hf }
  {
  refine W.cond_false (bool_tr rfl hc33) ?_
  refine W.seqK fun K35 hK35 => ?_
  refine W.region ?_
  refine WL.move (v := .int .i64 x1) rfl ?_
  obtain ⟨x36, hxx36, hf⟩ := bindE hf
  refine WL.call (vs := [.int .i64 x1, .int .i64 4, .int .i64 0]) hs FN44 ⟨rfl, ⟨rfl, ⟨rfl, trivial⟩⟩⟩ (fun ok hA => eslaw00_Digit.calls (x1 := x1) (x2 := 4) (x3 := 0) hxx36) ?_
  rintro _ w hs
  refine WL.bin (v := .bool (x36 == 2)) rfl rfl (ib_eql _ _ _) ?_
  refine WL.assign (v := .bool (x36 == 2)) rfl ?_
  refine WL.nil ?_
  refine hK35 _ _ ?_
  rcases iteE hf with ⟨hc37, hf⟩ | ⟨hc37, hf⟩
  {
  refine W.cond_true (bool_tr rfl hc37) ?_
  refine W.seqK fun K38 hK38 => ?_
  refine W.region ?_
  refine WL.fieldAddr (m := 0) rfl FA67_0 rfl ?_
  refine WL.store (vs := [.int .i64 4]) (cs' := [.int .i64 4, bstr x7, bstr x9, .int .i64 0, bstr []]) hs 0 rfl TI3 rfl rfl rfl rfl (ones_of rfl) (Nat.le_of_ble_eq_true rfl) rfl (fun w hs => ?_)
  refine WL.nil ?_
  refine hK38 _ _ ?_
  refine W.region ?_
  refine WL.move (v := .int .i64 x1) rfl ?_
  obtain ⟨x39, hxx39, hf⟩ := bindE hf
  refine WL.call (vs := [.int .i64 x1, .int .i64 4, .int .i64 5]) hs FN44 ⟨rfl, ⟨rfl, ⟨rfl, trivial⟩⟩⟩ (fun ok hA => eslaw00_Digit.calls (x1 := x1) (x2 := 4) (x3 := 5) hxx39) ?_
  rintro _ w hs
  obtain ⟨x40, hxx40, hf⟩ := bindE hf
  refine WL.call (vs := [.int .i64 x39]) hs FN81 ⟨rfl, trivial⟩ (fun ok hA => eslaw00_name.calls (x1 := x39) hxx40) ?_
  rintro _ w hs
  refine WL.fieldAddr (m := 4) rfl FA67_4 rfl ?_
  refine WL.store (vs := [bstr x40]) (cs' := [.int .i64 4, bstr x7, bstr x9, .int .i64 0, bstr x40]) hs 0 rfl TI9 rfl rfl rfl rfl (ones_of rfl) (Nat.le_of_ble_eq_true rfl) rfl (fun w hs => ?_)
  refine WL.nil ?_
  exact Jk19 4 0 x40 _ _ rfl rfl ((hs.mask [true, true]).pick []) hf }
  {
  refine W.cond_false (bool_tr rfl hc37) ?_
  refine W.region ?_
  refine WL.fieldAddr (m := 0) rfl FA67_0 rfl ?_
  refine WL.store (vs := [.int .i64 5]) (cs' := [.int .i64 5, bstr x7, bstr x9, .int .i64 0, bstr []]) hs 0 rfl TI3 rfl rfl rfl rfl (ones_of rfl) (Nat.le_of_ble_eq_true rfl) rfl (fun w hs => ?_)
  refine WL.nil ?_
  exact Jk19 5 0 [] _ _ rfl rfl ((hs.mask [true, true]).pick []) hf } } } }
theorem eslaw00_Update.calls {ok : Nat → Prop} {w0 : World} {x1 : Int} {x2 : Int} {x3 : Int}  {r : api_Update} (hf : eslaw00_Update x1 x2 x3 = some r)  :
    Calls Try.prog 45 #[.int .i64 x1, .int .i64 x2, .int .i64 x3] w0 fun e w' => ∃ v, e = .returned v ∧ ∃ y : (Option Addr × Nat × Nat), v = .agg ([.int .i64 r.Client, .int .i64 r.Seq, .int .i64 r.Tag, .slice y.1 y.2.1 y.2.2] : List Value).toArray ∧ St ok (bz w0) w' [] [own t_api_Effect 67 (.slice y.1 y.2.1 y.2.2) r.Effects] := by
  unfold eslaw00_Update at hf
  refine calls_of_W (fn := Try.f45) (N := 41) Try.func45 rfl Try.ntmps45 rfl ?_
  have hs : St ok (bz w0) w0 [] [] := St.init All.nil
  refine W.seqK fun K4 hK4 => ?_
  refine W.region ?_
  refine WL.alloc hs ZV41 (fun g5 w hs => ?_)
  refine WL.nil ?_
  refine hK4 _ _ ?_
  refine W.seqK fun K6 hK6 => ?_
  refine W.region ?_
  refine WL.move (v := .int .i64 x1) rfl ?_
  refine WL.move (v := .int .i64 x2) rfl ?_
  refine WL.build (vs := [(0, .int .i64 x1), (1, .int .i64 x2)]) (cs := [.int .i64 x1, .int .i64 x2, .int .i64 0, .slice none 0 0]) ⟨⟨rfl, rfl⟩, ⟨⟨rfl, rfl⟩, trivial⟩⟩ (bld PL41 rfl) ?_
  refine WL.alloc hs ZV41 (fun g7 w hs => ?_)
  refine WL.storeAll (vs := [.int .i64 x1, .int .i64 x2, .int .i64 0, .slice none 0 0]) hs 0 rfl TI41 rfl rfl rfl rfl (ones_of rfl) rfl (fun w hs => ?_)
  refine WL.nil ?_
  refine hK6 _ _ ?_
  refine W.seqK fun K8 hK8 => ?_
  refine W.seqK fun K9 hK9 => ?_
  refine W.region ?_
  refine WL.move (v := .int .i64 x3) rfl ?_
  obtain ⟨x10, hxx10, hf⟩ := bindE hf
  refine WL.call (vs := [.int .i64 x3, .int .i64 3, .int .i64 8]) hs FN44 ⟨rfl, ⟨rfl, ⟨rfl, trivial⟩⟩⟩ (fun ok hA => eslaw00_Digit.calls (x1 := x3) (x2 := 3) (x3 := 8) hxx10) ?_
  rintro _ w hs
  refine WL.bin (v := .bool (x10 == 0)) rfl rfl (ib_eql _ _ _) ?_
  refine WL.nil ?_
  refine hK9 _ _ ?_
  rcases iteE hf with ⟨hc11, hf⟩ | ⟨hc11, hf⟩
  {
  refine W.cond_true (bool_tr rfl hc11) ?_
  refine W.seqK fun K12 hK12 => ?_
  refine W.region ?_
  refine WL.move (v := .int .i64 x3) rfl ?_
  obtain ⟨x13, hxx13, hf⟩ := bindE hf
  refine WL.call (vs := [.int .i64 x3, .int .i64 16, .int .i64 4]) hs FN44 ⟨rfl, ⟨rfl, ⟨rfl, trivial⟩⟩⟩ (fun ok hA => eslaw00_Digit.calls (x1 := x3) (x2 := 16) (x3 := 4) hxx13) ?_
  rintro _ w hs
  refine WL.fieldAddr (m := 2) rfl FA41_2 rfl ?_
  refine WL.store (vs := [.int .i64 x13]) (cs' := [.int .i64 x1, .int .i64 x2, .int .i64 x13, .slice none 0 0]) hs 0 rfl TI3 rfl rfl rfl rfl (ones_of rfl) (Nat.le_of_ble_eq_true rfl) rfl (fun w hs => ?_)
  refine WL.nil ?_
  refine hK12 _ _ ?_
  refine W.seqK fun K14 hK14 => ?_
  refine W.region ?_
  refine WL.move (v := .int .i64 x3) rfl ?_
  obtain ⟨x15, hxx15, hf⟩ := bindE hf
  refine WL.call (vs := [.int .i64 x3, .bool true]) hs FN68 ⟨rfl, ⟨rfl, trivial⟩⟩ (fun ok hA => eslaw00_Effect.calls (x1 := x3) (x2 := true) hxx15) ?_
  rintro cs16 w hs
  have hl17 := hs.agglen (n := 5) 0 rfl rfl rfl
  refine WL.buildSlice (n := 1) (vs := [(0, .agg cs16.toArray)]) (cs := cs16) hs ⟨⟨rfl, rfl⟩, trivial⟩ (bls PS39 (by decide) (by simp [fillS, fillL, Value.cells, hl17])) (fun g18 w hs => ?_)
  refine WL.fieldAddr (m := 3) rfl FA41_3 rfl ?_
  refine WL.store (vs := [.slice (some ⟨g18, 0, none⟩) ([x15]).length 1]) (cs' := [.int .i64 x1, .int .i64 x2, .int .i64 x13, .slice (some ⟨g18, 0, none⟩) ([x15]).length 1]) hs 1 rfl TI39 rfl rfl rfl rfl (ones_of rfl) (Nat.le_of_ble_eq_true rfl) rfl (fun w hs => ?_)
  refine WL.nil ?_
  refine hK14 _ _ ?_
  refine W.seqK fun K19 hK19 => ?_
  refine W.region ?_
  refine WL.loadN (vs := [.int .i64 x1, .int .i64 x2, .int .i64 x13, .slice (some ⟨g18, 0, none⟩) ([x15]).length 1]) hs 1 rfl TI41 rfl rfl rfl ?_
  refine WL.storeAll (vs := [.int .i64 x1, .int .i64 x2, .int .i64 x13, .slice (some ⟨g18, 0, none⟩) ([x15]).length 1]) hs 2 rfl TI41 rfl rfl rfl rfl (ones_of rfl) rfl (fun w hs => ?_)
  have hs := hs.ownLit (A := t_api_Effect) (xs := [x15]) 0 rfl (fun ok hA => (Cells.one (T := t_api_Effect) (R_agg (hA.get 0 rfl) rfl))) (Nat.le_of_ble_eq_true rfl)
  refine WL.nil ?_
  refine hK19 _ _ ?_
  refine W.ret ?_
  have hr := Option.some.inj hf; subst hr
  exact ⟨_, resOk_one rfl (res_all hs 2 rfl TI41 rfl rfl), ((some ⟨g18, 0, none⟩), ([x15]).length, 1), rfl, (hs.mask [true]).pick []⟩ }
  {
  refine W.cond_false (bool_tr rfl hc11) ?_
  refine W.skip ?_
  refine hK8 _ _ ?_
  refine W.seqK fun K20 hK20 => ?_
  have hs := hs.ownNil t_api_Effect 67
  have Jk26 : ∀ (x22 : List api_Effect) (a23 : Option Addr) (c24 : Nat) (n25 : Nat) (ρ : Env) (w : World), ρ 6 = .pointer (some ⟨g5, 0, none⟩) → ρ 7 = .pointer (some ⟨g7, 0, none⟩) → St ok (bz w0) w [] [own t_api_Effect 67 (.slice a23 n25 c24) x22, blk g7 41 [.int .i64 x1, .int .i64 x2, .int .i64 0, .slice a23 n25 c24], blk g5 41 [.int .i64 0, .int .i64 0, .int .i64 0, .slice none 0 0]] → eslaw00_Update.j1 x1 x2 x22 = some r → K20 ρ w := by
    intro x22 a23 c24 n25 ρ w h21_6 h21_7 hs hf
    refine hK20 _ _ ?_
    unfold eslaw00_Update.j1 at hf
    refine W.seqK fun K27 hK27 => ?_
    refine W.region ?_
    refine WL.loadN (vs := [.int .i64 x1, .int .i64 x2, .int .i64 0, .slice a23 n25 c24]) hs 1 rfl TI41 h21_7 rfl rfl ?_
    refine WL.storeAll (vs := [.int .i64 x1, .int .i64 x2, .int .i64 0, .slice a23 n25 c24]) hs 2 rfl TI41 h21_6 rfl rfl rfl (ones_of rfl) rfl (fun w hs => ?_)
    refine WL.nil ?_
    refine hK27 _ _ ?_
    refine W.ret ?_
    have hr := Option.some.inj hf; subst hr
    exact ⟨_, resOk_one rfl (res_all hs 2 rfl TI41 h21_6 rfl), (a23, n25, c24), rfl, (hs.mask [true]).pick []⟩
  refine W.seqK fun K28 hK28 => ?_
  refine W.region ?_
  refine WL.assign (v := .int .i64 0) rfl ?_
  refine WL.nil ?_
  refine hK28 _ _ ?_
  refine W.block ?_
  obtain ⟨bs35, hbs35, hfs35⟩ := bindE hf
  refine W.loop hbs35 (fun s ρ w => match s with | (x30, x31) => ∃ (a32 : Option Addr), ∃ (c33 : Nat), ∃ (n34 : Nat), ρ 2 = .int .i64 x3 ∧ ρ 6 = .pointer (some ⟨g5, 0, none⟩) ∧ ρ 7 = .pointer (some ⟨g7, 0, none⟩) ∧ ρ 8 = .int .i64 x30 ∧ St ok (bz w0) w [] [own t_api_Effect 67 (.slice a32 n34 c33) x31, blk g7 41 [.int .i64 x1, .int .i64 x2, .int .i64 0, .slice a32 n34 c33], blk g5 41 [.int .i64 0, .int .i64 0, .int .i64 0, .slice none 0 0]]) ⟨none, 0, 0, rfl, rfl, rfl, rfl, (hs.mask [true, true, true]).pick []⟩ ?_
  intro s ρ w os35 hI hf hbbs35
  obtain ⟨x30, x31⟩ := s
  obtain ⟨a32, c33, n34, h29_2, h29_6, h29_7, h29_8, hs⟩ := hI
  unfold eslaw00_Update.l1 at hf
  refine W.seqK fun K36 hK36 => ?_
  refine W.seqK fun K37 hK37 => ?_
  refine W.region ?_
  refine WL.move (v := .int .i64 x30) h29_8 ?_
  refine WL.move (v := .int .i64 x3) h29_2 ?_
  obtain ⟨x38, hxx38, hf⟩ := bindE hf
  refine WL.call (vs := [.int .i64 x3, .int .i64 3, .int .i64 9]) hs FN44 ⟨rfl, ⟨rfl, ⟨rfl, trivial⟩⟩⟩ (fun ok hA => eslaw00_Digit.calls (x1 := x3) (x2 := 3) (x3 := 9) hxx38) ?_
  rintro _ w hs
  refine WL.bin (v := .bool (decide (x30 ≤ x38))) rfl rfl (ib_leq _ _ _) ?_
  refine WL.nil ?_
  refine hK37 _ _ ?_
  rcases iteE hf with ⟨hc39, hf⟩ | ⟨hc39, hf⟩
  {
  refine W.cond_true (bool_tr rfl hc39) ?_
  refine W.skip ?_
  refine hK36 _ _ ?_
  refine W.seqK fun K40 hK40 => ?_
  refine W.block ?_
  obtain ⟨x41, hxx41, hf⟩ := bindE hf
  obtain ⟨x42, ex42, hf⟩ := letE hf
  obtain ⟨hn44, hf⟩ := guardE hf
  obtain ⟨x43, ex43, hf⟩ := letE hf
  obtain ⟨x45, hxx45, hf⟩ := bindE hf
  refine W.any (by kernel_rfl) 9 3 [true, true, true, true, true, true, true, true, true, false, false, false] rfl rfl (poAt [pv (.pointer (some ⟨g7, 3, none⟩)), pv (.slice a32 n34 c33), pv (.int .i64 x3), pv (.int .i64 x41), pv (.int .i64 x30), pv (.int .i64 x42), pv (.int .i64 x43), pq (fun y : List Value => .agg y.toArray) (fun v => [vl t_api_Effect x45 v]) (fun v => []), pq (fun y : (Option Addr × Nat) => .slice y.1 ([x45]).length y.2) (fun v => [vl (tSlice t_api_Effect) [x45] v]) (fun v => [])]) (Λ := [own t_api_Effect 67 (.slice a32 n34 c33) x31, blk g7 41 [.int .i64 x1, .int .i64 x2, .int .i64 0, .slice a32 n34 c33], blk g5 41 [.int .i64 0, .int .i64 0, .int .i64 0, .slice none 0 0]]) hs (by kernel_rfl) (by kernel_rfl) (by kernel_rfl) ⟨⟨⟨⟨⟨⟨⟨⟨⟨trivial, ?_⟩, ?_⟩, ?_⟩, ?_⟩, ?_⟩, ?_⟩, ?_⟩, ?_⟩, ?_⟩ ?_
  {
  intro ρ w Γx Λx hs hu hp
  refine WL.fieldAddr (m := 3) ((hu 7 rfl).trans h29_7) FA41_3 rfl ?_
  exact WL.nil ⟨rfl, _, rfl, rfl, hs.cutG 0 0⟩ }
  {
  intro ρ w Γx Λx hs hu hp
  have e50 : ρ 29 = .pointer (some ⟨g7, 3, none⟩) := (hp 0 rfl).1
  refine WL.load1 (v := .slice a32 n34 c33) hs (Λx.length + 1) (getApp rfl) TI39 e50 rfl ?_
  exact WL.nil ⟨rfl, _, rfl, rfl, hs.cutG 0 0⟩ }
  {
  intro ρ w Γx Λx hs hu hp
  refine WL.move (v := .int .i64 x3) ((hu 2 rfl).trans h29_2) ?_
  exact WL.nil ⟨rfl, _, rfl, rfl, hs.cutG 0 0⟩ }
  {
  intro ρ w Γx Λx hs hu hp
  have e51 : ρ 31 = .int .i64 x3 := (hp 2 rfl).1
  refine WL.call (vs := [.int .i64 x3, .int .i64 1099511627776]) hs FN24 ⟨e51, ⟨rfl, trivial⟩⟩ (fun ok hA => eslaw00_Index.calls (x1 := x3) (x2 := 1099511627776) hxx41) ?_
  rintro _ w hs
  exact WL.nil ⟨rfl, _, rfl, rfl, hs.cutG 0 0⟩ }
  {
  intro ρ w Γx Λx hs hu hp
  refine WL.move (v := .int .i64 x30) ((hu 8 rfl).trans h29_8) ?_
  exact WL.nil ⟨rfl, _, rfl, rfl, hs.cutG 0 0⟩ }
  {
  intro ρ w Γx Λx hs hu hp
  have e52 : ρ 33 = .int .i64 x30 := (hp 4 rfl).1
  refine WL.bin (v := .int .i64 x42) e52 rfl (ib_as ex42 (ib_add _ _ _)) ?_
  exact WL.nil ⟨rfl, _, rfl, rfl, hs.cutG 0 0⟩ }
  {
  intro ρ w Γx Λx hs hu hp
  have e53 : ρ 32 = .int .i64 x41 := (hp 3 rfl).1
  have e54 : ρ 34 = .int .i64 x42 := (hp 5 rfl).1
  refine WL.bin (v := .int .i64 x43) e53 e54 (ib_as ex43 (ib_quo _ _ _ hn44)) ?_
  exact WL.nil ⟨rfl, _, rfl, rfl, hs.cutG 0 0⟩ }
  {
  intro ρ w Γx Λx hs hu hp
  have e55 : ρ 35 = .int .i64 x43 := (hp 6 rfl).1
  refine WL.call (vs := [.int .i64 x43, .bool false]) hs FN68 ⟨e55, ⟨rfl, trivial⟩⟩ (fun ok hA => eslaw00_Effect.calls (x1 := x43) (x2 := false) hxx45) ?_
  rintro cs46 w hs
  have hl47 := hs.agglen (n := 5) 0 rfl rfl rfl
  have hs := hs.add (it := vl t_api_Effect x45 (.agg cs46.toArray)) fun ok hA => hA.get 0 rfl
  exact WL.nil ⟨rfl, _, rfl, ⟨cs46, rfl⟩, hs.cutG 1 1⟩ }
  {
  intro ρ w Γx Λx hs hu hp
  obtain ⟨⟨cs56, e58r⟩, hm59⟩ := hp 7 rfl
  have e58 : ρ 36 = .agg cs56.toArray := e58r
  rw [e58r] at hm59
  have hs := hs.memo1 (it := vl t_api_Effect x45 (.agg cs56.toArray)) (List.mem_append.2 (.inl (hm59 _ (List.mem_of_getElem? (i := 0) rfl))))
  have hl57 := hs.agglen (n := 5) 0 rfl rfl rfl
  refine WL.buildSliceB (ys := [x45]) (n := 1) (vs := [(0, .agg cs56.toArray)]) (cs := cs56) hs ⟨⟨rfl, e58⟩, trivial⟩ (bls PS39 (by decide) (by simp [fillS, fillL, Value.cells, hl57])) (fun ok hA => (Cells.one (T := t_api_Effect) (R_agg (hA.get 0 rfl) rfl))) rfl (by decide) (fun a49 w hBl hs => ?_)
  have hs := hs.add (it := vl (tSlice t_api_Effect) [x45] (.slice a49 ([x45]).length 1)) fun ok hA => hA.get 0 rfl
  exact WL.nil ⟨rfl, _, rfl, ⟨(a49, 1), rfl⟩, hs.cutG 1 2⟩ }
  {
  intro ρ w hs hu60 hp
  obtain ⟨⟨⟨⟨⟨⟨⟨⟨⟨_, hp0_⟩, hp1_⟩, hp2_⟩, hp3_⟩, hp4_⟩, hp5_⟩, hp6_⟩, hp7_⟩, hp8_⟩ := hp
  have hs : St ok (bz w0) w [vl (tSlice t_api_Effect) [x45] (ρ 37), vl t_api_Effect x45 (ρ 36)] [own t_api_Effect 67 (.slice a32 n34 c33) x31, blk g7 41 [.int .i64 x1, .int .i64 x2, .int .i64 0, .slice a32 n34 c33], blk g5 41 [.int .i64 0, .int .i64 0, .int .i64 0, .slice none 0 0]] := hs
  obtain ⟨⟨a61, c62⟩, e63⟩ := hp8_
  have e63 : ρ 37 = .slice a61 ([x45]).length c62 := e63
  try rw [e63] at hs
  obtain ⟨cs64, e66⟩ := hp7_
  have e66 : ρ 36 = .agg cs64.toArray := e66
  try rw [e66] at hs
  have e67 : ρ 35 = .int .i64 x43 := hp6_
  have e68 : ρ 34 = .int .i64 x42 := hp5_
  have e69 : ρ 33 = .int .i64 x30 := hp4_
  have e70 : ρ 32 = .int .i64 x41 := hp3_
  have e71 : ρ 31 = .int .i64 x3 := hp2_
  have e72 : ρ 30 = .slice a32 n34 c33 := hp1_
  have e73 : ρ 29 = .pointer (some ⟨g7, 3, none⟩) := hp0_
  have hl65 := hs.agglen (n := 5) 1 rfl rfl rfl
  refine WA.step [9] (by kernel_rfl) (by simp) ⟨?_, trivial⟩
  obtain ⟨x74, hxx74, hf⟩ := bindE hf
  obtain ⟨hbx74, hex74⟩ := appE hxx74
  refine WL.appendS (zs := x74) hs 0 rfl 0 rfl UN39 UN39 EI67 e72 e63 hbx74 (by omega) hex74 (fun v75 w hs => ?_)
  obtain ⟨a76, n78, c77, rfl⟩ := hs.ownv3 0 rfl
  refine WL.nil ⟨rfl, _, rfl, ?_⟩
  refine WA.step [10] (by kernel_rfl) (by simp) ⟨?_, trivial⟩
  refine WL.fieldAddr (m := 3) ((hu60 7 rfl).trans h29_7) FA41_3 rfl ?_
  refine WL.nil ⟨rfl, _, rfl, ?_⟩
  refine WA.step [11] (by kernel_rfl) (by simp) ⟨?_, trivial⟩
  refine WL.store (vs := [.slice a76 n78 c77]) (cs' := [.int .i64 x1, .int .i64 x2, .int .i64 0, .slice a76 n78 c77]) hs 1 rfl TI39 rfl rfl rfl rfl (ones_of rfl) (Nat.le_of_ble_eq_true rfl) rfl (fun w hs => ?_)
  refine WL.nil ⟨rfl, _, rfl, ?_⟩
  refine WA.done (by kernel_rfl) ?_
  refine hK40 _ _ ?_
  refine W.region ?_
  refine WL.move (v := .int .i64 x30) ((hu60 8 rfl).trans h29_8) ?_
  obtain ⟨x79, ex79, hf⟩ := letE hf
  refine WL.bin (v := .int .i64 x79) rfl rfl (ib_as ex79 (ib_add _ _ _)) ?_
  refine WL.assign (v := .int .i64 x79) rfl ?_
  refine WL.nil ?_
  exact ⟨_, (Option.some.inj hf).symm, a76, c77, n78, ((hu60 2 rfl).trans h29_2), ((hu60 6 rfl).trans h29_6), ((hu60 7 rfl).trans h29_7), rfl, (hs.mask [true, true, true]).pick []⟩ } }
  {
  refine W.cond_false (bool_tr rfl hc39) ?_
  refine W.exit ?_
  have hr := Option.some.inj hf; subst hr
  have hr := hbbs35 _ rfl; subst hr
  have hf := hfs35
  exact Jk26 x31 a32 c33 n34 _ _ h29_6 h29_7 ((hs.mask [true, true, true]).pick []) hf } }
theorem eslaw00_Updates.calls {ok : Nat → Prop} {w0 : World} {x1 : List Int} {a2 : Option Addr} {c3 : Nat} {r : List api_Update} (hf : eslaw00_Updates x1 = some r) (i0 : (vl (tSlice (tInt .i64)) x1 (.slice a2 x1.length c3)).holds ok w0) :
    Calls Try.prog 19 #[.slice a2 x1.length c3] w0 fun e w' => ∃ v, e = .returned v ∧ ∃ y : (Option Addr × Nat × Nat), v = .slice y.1 y.2.1 y.2.2 ∧ St ok (bz w0) w' [] [own t_api_Update 41 (.slice y.1 y.2.1 y.2.2) r] := by
  unfold eslaw00_Updates at hf
  refine calls_of_W (fn := Try.f19) (N := 48) Try.func19 rfl Try.ntmps19 rfl ?_
  have hs : St ok (bz w0) w0 [vl (tSlice (tInt .i64)) x1 (.slice a2 x1.length c3)] [] := St.init (All.cons i0 All.nil)
  clear i0
  refine W.seqK fun K4 hK4 => ?_
  refine W.region ?_
  refine WL.assign (v := .slice none 0 0) rfl ?_
  refine WL.nil ?_
  refine hK4 _ _ ?_
  refine W.seqK fun K5 hK5 => ?_
  refine W.region ?_
  refine WL.assign (v := .slice none 0 0) rfl ?_
  refine WL.nil ?_
  refine hK5 _ _ ?_
  refine W.seqK fun K6 hK6 => ?_
  have hs := hs.ownNil t_api_Update 41
  have Jk12 : ∀ (x8 : List api_Update) (a9 : Option Addr) (c10 : Nat) (n11 : Nat) (ρ : Env) (w : World), ρ 3 = .slice a9 n11 c10 → St ok (bz w0) w [] [own t_api_Update 41 (.slice a9 n11 c10) x8] → eslaw00_Updates.j1 x8 = some r → K6 ρ w := by
    intro x8 a9 c10 n11 ρ w h7_3 hs hf
    refine hK6 _ _ ?_
    unfold eslaw00_Updates.j1 at hf
    refine W.seqK fun K13 hK13 => ?_
    refine W.region ?_
    refine WL.move (v := .slice a9 n11 c10) h7_3 ?_
    refine WL.assign (v := .slice a9 n11 c10) rfl ?_
    refine WL.nil ?_
    refine hK13 _ _ ?_
    refine W.ret ?_
    have hr := Option.some.inj hf; subst hr
    exact ⟨_, resOk_one rfl rfl, (a9, n11, c10), rfl, (hs.mask [true]).pick []⟩
  refine W.seqK fun K14 hK14 => ?_
  refine W.region ?_
  refine WL.assign (v := .int .i64 0) rfl ?_
  refine WL.nil ?_
  refine hK14 _ _ ?_
  refine W.block ?_
  obtain ⟨bs21, hbs21, hfs21⟩ := bindE hf
  refine W.loop hbs21 (fun s ρ w => match s with | (x16, x20) => ∃ (a17 : Option Addr), ∃ (c18 : Nat), ∃ (n19 : Nat), ρ 0 = .slice a2 x1.length c3 ∧ ρ 3 = .slice a17 n19 c18 ∧ ρ 4 = .int .i64 x20 ∧ St ok (bz w0) w [vl (tSlice (tInt .i64)) x1 (.slice a2 x1.length c3)] [own t_api_Update 41 (.slice a17 n19 c18) x16]) ⟨none, 0, 0, rfl, rfl, rfl, (hs.mask [true]).pick [0]⟩ ?_
  intro s ρ w os21 hI hf hbbs21
  obtain ⟨x16, x20⟩ := s
  obtain ⟨a17, c18, n19, h15_0, h15_3, h15_4, hs⟩ := hI
  unfold eslaw00_Updates.l2 at hf
  refine W.seqK fun K22 hK22 => ?_
  refine W.seqK fun K23 hK23 => ?_
  refine W.region ?_
  refine WL.move (v := .int .i64 x20) h15_4 ?_
  refine WL.bin (v := .bool (decide (x20 < 3))) rfl rfl (ib_lss _ _ _) ?_
  refine WL.nil ?_
  refine hK23 _ _ ?_
  rcases iteE hf with ⟨hc24, hf⟩ | ⟨hc24, hf⟩
  {
  refine W.cond_true (bool_tr rfl hc24) ?_
  refine W.skip ?_
  refine hK22 _ _ ?_
  refine W.seqK fun K25 hK25 => ?_
  have Jk31 : ∀ (x27 : List api_Update) (a28 : Option Addr) (c29 : Nat) (n30 : Nat) (ρ : Env) (w : World), ρ 0 = .slice a2 x1.length c3 → ρ 3 = .slice a28 n30 c29 → ρ 4 = .int .i64 x20 → St ok (bz w0) w [vl (tSlice (tInt .i64)) x1 (.slice a2 x1.length c3)] [own t_api_Update 41 (.slice a28 n30 c29) x27] → eslaw00_Updates.j2 x20 x27 = some os21 → K25 ρ w := by
    intro x27 a28 c29 n30 ρ w h26_0 h26_3 h26_4 hs hf
    refine hK25 _ _ ?_
    unfold eslaw00_Updates.j2 at hf
    refine W.region ?_
    refine WL.move (v := .int .i64 x20) h26_4 ?_
    obtain ⟨x32, ex32, hf⟩ := letE hf
    refine WL.bin (v := .int .i64 x32) rfl rfl (ib_as ex32 (ib_add _ _ _)) ?_
    refine WL.assign (v := .int .i64 x32) rfl ?_
    refine WL.nil ?_
    exact ⟨_, (Option.some.inj hf).symm, a28, c29, n30, h26_0, h26_3, rfl, (hs.mask [true]).pick [0]⟩
  refine W.block ?_
  refine W.seqK fun K33 hK33 => ?_
  refine W.region ?_
  refine WL.assign (v := .int .i64 0) rfl ?_
  refine WL.nil ?_
  refine hK33 _ _ ?_
  refine W.seqK fun K34 hK34 => ?_
  refine W.region ?_
  refine WL.assign (v := .int .i64 0) rfl ?_
  refine WL.nil ?_
  refine hK34 _ _ ?_
  refine W.block ?_
  obtain ⟨bs42, hbs42, hfs42⟩ := bindE hf
  refine W.loop hbs42 (fun s ρ w => match s with | (x36, x40, x41) => ∃ (a37 : Option Addr), ∃ (c38 : Nat), ∃ (n39 : Nat), ρ 0 = .slice a2 x1.length c3 ∧ ρ 3 = .slice a37 n39 c38 ∧ ρ 4 = .int .i64 x20 ∧ ρ 5 = .int .i64 x40 ∧ ρ 6 = .int .i64 x41 ∧ St ok (bz w0) w [vl (tSlice (tInt .i64)) x1 (.slice a2 x1.length c3)] [own t_api_Update 41 (.slice a37 n39 c38) x36]) ⟨a17, c18, n19, h15_0, h15_3, h15_4, rfl, rfl, (hs.mask [true]).pick [0]⟩ ?_
  intro s ρ w os42 hI hf hbbs42
  obtain ⟨x36, x40, x41⟩ := s
  obtain ⟨a37, c38, n39, h35_0, h35_3, h35_4, h35_5, h35_6, hs⟩ := hI
  unfold eslaw00_Updates.l1 at hf
  refine W.seqK fun K43 hK43 => ?_
  refine W.seqK fun K44 hK44 => ?_
  have Jk47 : ∀ (x46 : Bool) (ρ : Env) (w : World), ρ 0 = .slice a2 x1.length c3 → ρ 3 = .slice a37 n39 c38 → ρ 4 = .int .i64 x20 → ρ 5 = .int .i64 x40 → ρ 6 = .int .i64 x41 → ρ 18 = .bool x46 → St ok (bz w0) w [vl (tSlice (tInt .i64)) x1 (.slice a2 x1.length c3)] [own t_api_Update 41 (.slice a37 n39 c38) x36] → eslaw00_Updates.j5 x1 x20 x36 x40 x41 x46 = some os42 → K44 ρ w := by
    intro x46 ρ w h45_0 h45_3 h45_4 h45_5 h45_6 h45_18 hs hf
    refine hK44 _ _ ?_
    unfold eslaw00_Updates.j5 at hf
    rcases iteE hf with ⟨hc48, hf⟩ | ⟨hc48, hf⟩
    {
    refine W.cond_true (bool_tr h45_18 hc48) ?_
    refine W.skip ?_
    refine hK43 _ _ ?_
    refine W.seqK fun K49 hK49 => ?_
    have Jk56 : ∀ (x51 : List api_Update) (x55 : Int) (a52 : Option Addr) (c53 : Nat) (n54 : Nat) (ρ : Env) (w : World), ρ 0 = .slice a2 x1.length c3 → ρ 3 = .slice a52 n54 c53 → ρ 4 = .int .i64 x20 → ρ 5 = .int .i64 x55 → ρ 6 = .int .i64 x41 → St ok (bz w0) w [vl (tSlice (tInt .i64)) x1 (.slice a2 x1.length c3)] [own t_api_Update 41 (.slice a52 n54 c53) x51] → eslaw00_Updates.j3 x41 x51 x55 = some os42 → K49 ρ w := by
      intro x51 x55 a52 c53 n54 ρ w h50_0 h50_3 h50_4 h50_5 h50_6 hs hf
      refine hK49 _ _ ?_
      unfold eslaw00_Updates.j3 at hf
      refine W.region ?_
      refine WL.move (v := .int .i64 x41) h50_6 ?_
      obtain ⟨x57, ex57, hf⟩ := letE hf
      refine WL.bin (v := .int .i64 x57) rfl rfl (ib_as ex57 (ib_add _ _ _)) ?_
      refine WL.assign (v := .int .i64 x57) rfl ?_
      refine WL.nil ?_
      exact ⟨_, (Option.some.inj hf).symm, a52, c53, n54, h50_0, h50_3, h50_4, h50_5, rfl, (hs.mask [true]).pick [0]⟩
    refine W.block ?_
    refine W.seqK fun K58 hK58 => ?_
    have Jk61 : ∀ (x60 : Bool) (ρ : Env) (w : World), ρ 0 = .slice a2 x1.length c3 → ρ 3 = .slice a37 n39 c38 → ρ 4 = .int .i64 x20 → ρ 5 = .int .i64 x40 → ρ 6 = .int .i64 x41 → ρ 31 = .bool x60 → St ok (bz w0) w [vl (tSlice (tInt .i64)) x1 (.slice a2 x1.length c3)] [own t_api_Update 41 (.slice a37 n39 c38) x36] → eslaw00_Updates.j4 x1 x20 x36 x40 x41 x60 = some os42 → K58 ρ w := by
      intro x60 ρ w h59_0 h59_3 h59_4 h59_5 h59_6 h59_31 hs hf
      refine hK58 _ _ ?_
      unfold eslaw00_Updates.j4 at hf
      rcases iteE hf with ⟨hc62, hf⟩ | ⟨hc62, hf⟩
      {
      refine W.cond_true (bool_tr h59_31 hc62) ?_
      refine W.seqK fun K63 hK63 => ?_
      refine W.region ?_
      refine WL.move (v := .int .i64 x40) h59_5 ?_
      obtain ⟨x64, ex64, hf⟩ := letE hf
      refine WL.bin (v := .int .i64 x64) rfl rfl (ib_as ex64 (ib_add _ _ _)) ?_
      refine WL.assign (v := .int .i64 x64) rfl ?_
      refine WL.nil ?_
      refine hK63 _ _ ?_
      refine W.region ?_
      refine WL.move (v := .slice a37 n39 c38) h59_3 ?_
      refine WL.move (v := .int .i64 x20) h59_4 ?_
      obtain ⟨x65, ex65, hf⟩ := letE hf
      refine WL.bin (v := .int .i64 x65) rfl rfl (ib_as ex65 (ib_add _ _ _)) ?_
      refine WL.move (v := .int .i64 x64) rfl ?_
      refine WL.move (v := .slice a2 x1.length c3) h59_0 ?_
      refine WL.move (v := .int .i64 x41) h59_6 ?_
      obtain ⟨x66, hxx66, hf⟩ := bindE hf
      refine WL.indexAddr hs 0 rfl UN35 TI3 rfl rfl hxx66 (fun ad67 hs => ?_)
      refine WL.loadP hs 0 rfl TI3 (.inr rfl) rfl (fun v68 hs => ?_)
      obtain rfl := hs.int 0 rfl
      obtain ⟨x69, hxx69, hf⟩ := bindE hf
      refine WL.call (vs := [.int .i64 x66, .int .i64 1099511627776]) hs FN24 ⟨rfl, ⟨rfl, trivial⟩⟩ (fun ok hA => eslaw00_Index.calls (x1 := x66) (x2 := 1099511627776) hxx69) ?_
      rintro _ w hs
      obtain ⟨x70, ex70, hf⟩ := letE hf
      refine WL.bin (v := .int .i64 x70) rfl rfl (ib_as ex70 (ib_quo _ _ _ (by decide))) ?_
      obtain ⟨x71, hxx71, hf⟩ := bindE hf
      refine WL.call (vs := [.int .i64 x65, .int .i64 x64, .int .i64 x70]) hs FN45 ⟨rfl, ⟨rfl, ⟨rfl, trivial⟩⟩⟩ (fun ok hA => eslaw00_Update.calls (x1 := x65) (x2 := x64) (x3 := x70) hxx71) ?_
      rintro ⟨a72, n73, c74⟩ w hs
      refine WL.buildSlice (n := 1) (vs := [(0, .agg ([.int .i64 x71.Client, .int .i64 x71.Seq, .int .i64 x71.Tag, .slice a72 n73 c74] : List Value).toArray)]) (cs := [.int .i64 x71.Client, .int .i64 x71.Seq, .int .i64 x71.Tag, .slice a72 n73 c74]) hs ⟨⟨rfl, rfl⟩, trivial⟩ (bls PS23 (by decide) rfl) (fun g75 w hs => ?_)
      obtain rfl := hs.ownLen 1 rfl
      have hs := hs.freezeOwn 1 rfl
      obtain ⟨x76, hxx76, hf⟩ := bindE hf
      obtain ⟨hbx76, hex76⟩ := appE hxx76
      refine WL.append (ys := [(⟨x71.Client, x71.Seq, x71.Tag, x71.Effects⟩ : api_Update)]) (zs := x76) hs 1 rfl 0 rfl UN23 EI41 rfl rfl (fun ok hA => (Cells.one (T := t_api_Update) (show t_api_Update.R ok _ (⟨x71.Client, x71.Seq, x71.Tag, x71.Effects⟩ : api_Update) _ from ⟨[.int .i64 x71.Client], [.int .i64 x71.Seq, .int .i64 x71.Tag, .slice a72 (x71.Effects).length c74], rfl, rfl, ⟨[.int .i64 x71.Seq], [.int .i64 x71.Tag, .slice a72 (x71.Effects).length c74], rfl, rfl, ⟨[.int .i64 x71.Tag], [.slice a72 (x71.Effects).length c74], rfl, rfl, (R_one (hA.get 0 rfl))⟩⟩⟩))) hbx76 (by omega) hex76 (fun v77 w hs => ?_)
      obtain ⟨a78, n80, c79, rfl⟩ := hs.ownv3 1 rfl
      refine WL.assign (v := .slice a78 n80 c79) rfl ?_
      refine WL.nil ?_
      exact Jk56 x76 x64 a78 c79 n80 _ _ h59_0 rfl h59_4 rfl h59_6 ((hs.mask [false, true]).pick [3]) hf }
      {
      refine W.cond_false (bool_tr h59_31 hc62) ?_
      refine W.skip ?_
      exact Jk56 x36 x40 a37 c38 n39 _ _ h59_0 h59_3 h59_4 h59_5 h59_6 ((hs.mask [true]).pick [0]) hf }
    refine W.region ?_
    refine WL.move (v := .slice a2 x1.length c3) h45_0 ?_
    refine WL.move (v := .int .i64 x41) h45_6 ?_
    obtain ⟨x81, hxx81, hf⟩ := bindE hf
    refine WL.indexAddr hs 0 rfl UN35 TI3 rfl rfl hxx81 (fun ad82 hs => ?_)
    refine WL.loadP hs 0 rfl TI3 (.inr rfl) rfl (fun v83 hs => ?_)
    obtain rfl := hs.int 0 rfl
    obtain ⟨x84, hxx84, hf⟩ := bindE hf
    refine WL.call (vs := [.int .i64 x81, .int .i64 3, .int .i64 0]) hs FN44 ⟨rfl, ⟨rfl, ⟨rfl, trivial⟩⟩⟩ (fun ok hA => eslaw00_Digit.calls (x1 := x81) (x2 := 3) (x3 := 0) hxx84) ?_
    rintro _ w hs
    refine WL.move (v := .int .i64 x20) h45_4 ?_
    refine WL.bin (v := .bool (x84 == x20)) rfl rfl (ib_eql _ _ _) ?_
    refine WL.move (v := .bool (x84 == x20)) rfl ?_
    rcases iteE hf with ⟨hc85, hf⟩ | ⟨hc85, hf⟩
    {
    refine WL.move (v := .int .i64 x40) h45_5 ?_ (hg := (wanted_of rfl rfl (bool_tr rfl hc85)).trans rfl)
    refine WL.bin (v := .bool (decide (x40 < 8))) rfl rfl (ib_lss _ _ _) ?_ (hg := (wanted_of rfl rfl (bool_tr rfl hc85)).trans rfl)
    refine WL.pickT (v := .bool (decide (x40 < 8))) (bool_tr rfl hc85) rfl ?_
    refine WL.nil ?_
    exact Jk61 (decide (x40 < 8)) _ _ h45_0 h45_3 h45_4 h45_5 h45_6 rfl ((hs.mask [true]).pick [2]) hf }
    {
    refine WL.pass ((wanted_of rfl rfl (bool_tr rfl hc85)).trans rfl) rfl ?_
    refine WL.pass ((wanted_of rfl rfl (bool_tr rfl hc85)).trans rfl) rfl ?_
    refine WL.pickF (v := .bool false) (bool_tr rfl hc85) rfl ?_
    refine WL.nil ?_
    exact Jk61 false _ _ h45_0 h45_3 h45_4 h45_5 h45_6 rfl ((hs.mask [true]).pick [2]) hf } }
    {
    refine W.cond_false (bool_tr h45_18 hc48) ?_
    refine W.exit ?_
    have hr := Option.some.inj hf; subst hr
    have hr := hbbs42 _ rfl; subst hr
    have hf := hfs42
    exact Jk31 x36 a37 c38 n39 _ _ h45_0 h45_3 h45_4 ((hs.mask [true]).pick [0]) hf }
  refine W.region ?_
  refine WL.move (v := .int .i64 x41) h35_6 ?_
  refine WL.move (v := .slice a2 x1.length c3) h35_0 ?_
  refine WL.len (v := .slice a2 x1.length c3) rfl (len_slice UN35) ?_
  refine WL.bin (v := .bool (decide (x41 < (x1.length : Int)))) rfl rfl (ib_lss _ _ _) ?_
  refine WL.move (v := .bool (decide (x41 < (x1.length : Int)))) rfl ?_
  rcases iteE hf with ⟨hc86, hf⟩ | ⟨hc86, hf⟩
  {
  refine WL.move (v := .int .i64 x41) h35_6 ?_ (hg := (wanted_of rfl rfl (bool_tr rfl hc86)).trans rfl)
  refine WL.bin (v := .bool (decide (x41 < 24))) rfl rfl (ib_lss _ _ _) ?_ (hg := (wanted_of rfl rfl (bool_tr rfl hc86)).trans rfl)
  refine WL.pickT (v := .bool (decide (x41 < 24))) (bool_tr rfl hc86) rfl ?_
  refine WL.nil ?_
  exact Jk47 (decide (x41 < 24)) _ _ h35_0 h35_3 h35_4 h35_5 h35_6 rfl ((hs.mask [true]).pick [0]) hf }
  {
  refine WL.pass ((wanted_of rfl rfl (bool_tr rfl hc86)).trans rfl) rfl ?_
  refine WL.pass ((wanted_of rfl rfl (bool_tr rfl hc86)).trans rfl) rfl ?_
  refine WL.pickF (v := .bool false) (bool_tr rfl hc86) rfl ?_
  refine WL.nil ?_
  exact Jk47 false _ _ h35_0 h35_3 h35_4 h35_5 h35_6 rfl ((hs.mask [true]).pick [0]) hf } }
  {
  refine W.cond_false (bool_tr rfl hc24) ?_
  refine W.exit ?_
  have hr := Option.some.inj hf; subst hr
  have hr := hbbs21 _ rfl; subst hr
  have hf := hfs21
  exact Jk12 x16 a17 c18 n19 _ _ h15_3 ((hs.mask [true]).pick []) hf }
end Go.Proofs.Ytlbcfjblpopcnaa
set_option linter.unusedVariables false
set_option linter.unusedSimpArgs false
namespace Go.Proofs.Ytlbcfjblpopcnaa
open Go Go.RowKit Go.Proofs.YtlbcfjblpopcnaaL
set_option maxRecDepth 100000
set_option maxHeartbeats 4000000
theorem esref32_EqualStrings.calls {ok : Nat → Prop} {w0 : World} {x1 : List (List UInt8)} {x4 : List (List UInt8)} {a2 : Option Addr} {c3 : Nat} {a5 : Option Addr} {c6 : Nat} {r : Bool} (hf : esref32_EqualStrings x1 x4 = some r) (i0 : (vl (tSlice tStr) x1 (.slice a2 x1.length c3)).holds ok w0) (i1 : (vl (tSlice tStr) x4 (.slice a5 x4.length c6)).holds ok w0) :
    Calls Try.prog 56 #[.slice a2 x1.length c3, .slice a5 x4.length c6] w0 fun e w' => ∃ v, e = .returned v ∧ ∃ y : Unit, v = .bool r ∧ St ok (bz w0) w' [] [] := by
  unfold esref32_EqualStrings at hf
  refine calls_of_W (fn := Try.f56) (N := 26) Try.func56 rfl Try.ntmps56 rfl ?_
  have hs : St ok (bz w0) w0 [vl (tSlice tStr) x1 (.slice a2 x1.length c3), vl (tSlice tStr) x4 (.slice a5 x4.length c6)] [] := St.init (All.cons i0 (All.cons i1 All.nil))
  clear i0 i1
  refine W.seqK fun K7 hK7 => ?_
  refine W.region ?_
  refine WL.assign (v := .bool false) rfl ?_
  refine WL.nil ?_
  refine hK7 _ _ ?_
  refine W.seqK fun K8 hK8 => ?_
  refine W.seqK fun K9 hK9 => ?_
  refine W.region ?_
  refine WL.move (v := .slice a2 x1.length c3) rfl ?_
  refine WL.len (v := .slice a2 x1.length c3) rfl (len_slice UN55) ?_
  refine WL.move (v := .slice a5 x4.length c6) rfl ?_
  refine WL.len (v := .slice a5 x4.length c6) rfl (len_slice UN55) ?_
  refine WL.bin (v := .bool ((x1.length : Int) != (x4.length : Int))) rfl rfl (ib_neq _ _ _) ?_
  refine WL.nil ?_
  refine hK9 _ _ ?_
  rcases iteE hf with ⟨hc10, hf⟩ | ⟨hc10, hf⟩
  {
  refine W.cond_true (bool_tr rfl hc10) ?_
  refine W.seqK fun K11 hK11 => ?_
  refine W.region ?_
  refine WL.assign (v := .bool false) rfl ?_
  refine WL.nil ?_
  refine hK11 _ _ ?_
  refine W.ret ?_
  have hr := Option.some.inj hf; subst hr
  exact ⟨_, resOk_one rfl rfl, (), rfl, (hs.mask []).pick []⟩ }
  {
  refine W.cond_false (bool_tr rfl hc10) ?_
  refine W.skip ?_
  refine hK8 _ _ ?_
  refine W.seqK fun K12 hK12 => ?_
  have Jk14 : ∀  (ρ : Env) (w : World), St ok (bz w0) w [] [] → esref32_EqualStrings.j1 = some r → K12 ρ w := by
    intro  ρ w  hs hf
    refine hK12 _ _ ?_
    unfold esref32_EqualStrings.j1 at hf
    refine W.seqK fun K15 hK15 => ?_
    refine W.region ?_
    refine WL.assign (v := .bool true) rfl ?_
    refine WL.nil ?_
    refine hK15 _ _ ?_
    refine W.ret ?_
    have hr := Option.some.inj hf; subst hr
    exact ⟨_, resOk_one rfl rfl, (), rfl, (hs.mask []).pick []⟩
  refine W.seqK fun K16 hK16 => ?_
  refine W.region ?_
  refine WL.assign (v := .int .i64 0) rfl ?_
  refine WL.nil ?_
  refine hK16 _ _ ?_
  refine W.block ?_
  obtain ⟨bs19, hbs19, hfs19⟩ := bindE hf
  refine W.loop hbs19 (fun s ρ w => match s with | x18 => ρ 0 = .slice a2 x1.length c3 ∧ ρ 1 = .slice a5 x4.length c6 ∧ ρ 5 = .int .i64 x18 ∧ St ok (bz w0) w [vl (tSlice tStr) x1 (.slice a2 x1.length c3), vl (tSlice tStr) x4 (.slice a5 x4.length c6)] []) ⟨rfl, rfl, rfl, (hs.mask []).pick [0, 1]⟩ ?_
  intro x18 ρ w os19 hI hf hbbs19
  obtain ⟨h17_0, h17_1, h17_5, hs⟩ := hI
  unfold esref32_EqualStrings.l1 at hf
  refine W.seqK fun K20 hK20 => ?_
  refine W.seqK fun K21 hK21 => ?_
  refine W.region ?_
  refine WL.move (v := .int .i64 x18) h17_5 ?_
  refine WL.move (v := .slice a2 x1.length c3) h17_0 ?_
  refine WL.len (v := .slice a2 x1.length c3) rfl (len_slice UN55) ?_
  refine WL.bin (v := .bool (decide (x18 < (x1.length : Int)))) rfl rfl (ib_lss _ _ _) ?_
  refine WL.nil ?_
  refine hK21 _ _ ?_
  rcases iteE hf with ⟨hc22, hf⟩ | ⟨hc22, hf⟩
  {
  refine W.cond_true (bool_tr rfl hc22) ?_
  refine W.skip ?_
  refine hK20 _ _ ?_
  refine W.seqK fun K23 hK23 => ?_
  refine W.block ?_
  refine W.seqK fun K24 hK24 => ?_
  obtain ⟨x25, hxx25, hf⟩ := bindE hf
  obtain ⟨x28, hxx28, hf⟩ := bindE hf
  refine W.any (by kernel_rfl) 9 0 [true, true, true, true, true, true, true, true, true] rfl rfl (poAt [pv (.slice a2 x1.length c3), pv (.int .i64 x18), pq (fun y : Addr => .pointer (some y)) (fun v => [pl tStr x25 (adOf v)]) (fun v => []), pv (bstr x25), pv (.slice a5 x4.length c6), pv (.int .i64 x18), pq (fun y : Addr => .pointer (some y)) (fun v => [pl tStr x28 (adOf v)]) (fun v => []), pv (bstr x28), pv (.bool (x25 != x28))]) (Λ := []) hs (by kernel_rfl) (by kernel_rfl) (by kernel_rfl) ⟨⟨⟨⟨⟨⟨⟨⟨⟨trivial, ?_⟩, ?_⟩, ?_⟩, ?_⟩, ?_⟩, ?_⟩, ?_⟩, ?_⟩, ?_⟩ ?_
  {
  intro ρ w Γx Λx hs hu hp
  refine WL.move (v := .slice a2 x1.length c3) ((hu 0 rfl).trans h17_0) ?_
  exact WL.nil ⟨rfl, _, rfl, rfl, hs.cutG 0 0⟩ }
  {
  intro ρ w Γx Λx hs hu hp
  refine WL.move (v := .int .i64 x18) ((hu 5 rfl).trans h17_5) ?_
  exact WL.nil ⟨rfl, _, rfl, rfl, hs.cutG 0 0⟩ }
  {
  intro ρ w Γx Λx hs hu hp
  have e31 : ρ 17 = .slice a2 x1.length c3 := (hp 0 rfl).1
  have e32 : ρ 18 = .int .i64 x18 := (hp 1 rfl).1
  refine WL.indexAddr hs (Γx.length + 0) (getApp rfl) UN55 TI9 e31 e32 hxx25 (fun ad26 hs => ?_)
  have hs := hs.add (it := pl tStr x25 ad26) fun ok hA => hA.get 0 rfl
  exact WL.nil ⟨rfl, _, rfl, ⟨ad26, rfl⟩, hs.cutG 1 1⟩ }
  {
  intro ρ w Γx Λx hs hu hp
  obtain ⟨⟨ad33, e34r⟩, hm35⟩ := hp 2 rfl
  have e34 : ρ 19 = .pointer (some ad33) := e34r
  rw [e34r] at hm35
  have hs := hs.memo1 (it := pl tStr x25 ad33) (List.mem_append.2 (.inl (hm35 _ (List.mem_of_getElem? (i := 0) rfl))))
  refine WL.loadP hs 0 rfl TI9 (.inr rfl) e34 (fun v27 hs => ?_)
  obtain rfl := hs.str 0 rfl
  exact WL.nil ⟨rfl, _, rfl, rfl, hs.cutG 0 2⟩ }
  {
  intro ρ w Γx Λx hs hu hp
  refine WL.move (v := .slice a5 x4.length c6) ((hu 1 rfl).trans h17_1) ?_
  exact WL.nil ⟨rfl, _, rfl, rfl, hs.cutG 0 0⟩ }
  {
  intro ρ w Γx Λx hs hu hp
  refine WL.move (v := .int .i64 x18) ((hu 5 rfl).trans h17_5) ?_
  exact WL.nil ⟨rfl, _, rfl, rfl, hs.cutG 0 0⟩ }
  {
  intro ρ w Γx Λx hs hu hp
  have e36 : ρ 21 = .slice a5 x4.length c6 := (hp 4 rfl).1
  have e37 : ρ 22 = .int .i64 x18 := (hp 5 rfl).1
  refine WL.indexAddr hs (Γx.length + 1) (getApp rfl) UN55 TI9 e36 e37 hxx28 (fun ad29 hs => ?_)
  have hs := hs.add (it := pl tStr x28 ad29) fun ok hA => hA.get 0 rfl
  exact WL.nil ⟨rfl, _, rfl, ⟨ad29, rfl⟩, hs.cutG 1 1⟩ }
  {
  intro ρ w Γx Λx hs hu hp
  obtain ⟨⟨ad38, e39r⟩, hm40⟩ := hp 6 rfl
  have e39 : ρ 23 = .pointer (some ad38) := e39r
  rw [e39r] at hm40
  have hs := hs.memo1 (it := pl tStr x28 ad38) (List.mem_append.2 (.inl (hm40 _ (List.mem_of_getElem? (i := 0) rfl))))
  refine WL.loadP hs 0 rfl TI9 (.inr rfl) e39 (fun v30 hs => ?_)
  obtain rfl := hs.str 0 rfl
  exact WL.nil ⟨rfl, _, rfl, rfl, hs.cutG 0 2⟩ }
  {
  intro ρ w Γx Λx hs hu hp
  have e41 : ρ 20 = bstr x25 := (hp 3 rfl).1
  have e42 : ρ 24 = bstr x28 := (hp 7 rfl).1
  refine WL.binS (v := .bool (x25 != x28)) e41 e42 (sb_neq _ _) ?_
  exact WL.nil ⟨rfl, _, rfl, rfl, hs.cutG 0 0⟩ }
  {
  intro ρ w hs hu43 hp
  obtain ⟨⟨⟨⟨⟨⟨⟨⟨⟨_, hp0_⟩, hp1_⟩, hp2_⟩, hp3_⟩, hp4_⟩, hp5_⟩, hp6_⟩, hp7_⟩, hp8_⟩ := hp
  have hs : St ok (bz w0) w [pl tStr x28 (adOf (ρ 23)), pl tStr x25 (adOf (ρ 19)), vl (tSlice tStr) x1 (.slice a2 x1.length c3), vl (tSlice tStr) x4 (.slice a5 x4.length c6)] [] := hs
  have e44 : ρ 25 = .bool (x25 != x28) := hp8_
  have e45 : ρ 24 = bstr x28 := hp7_
  obtain ⟨ad46, e47⟩ := hp6_
  have e47 : ρ 23 = .pointer (some ad46) := e47
  try rw [e47] at hs
  have e48 : ρ 22 = .int .i64 x18 := hp5_
  have e49 : ρ 21 = .slice a5 x4.length c6 := hp4_
  have e50 : ρ 20 = bstr x25 := hp3_
  obtain ⟨ad51, e52⟩ := hp2_
  have e52 : ρ 19 = .pointer (some ad51) := e52
  try rw [e52] at hs
  have e53 : ρ 18 = .int .i64 x18 := hp1_
  have e54 : ρ 17 = .slice a2 x1.length c3 := hp0_
  refine WA.done (by kernel_rfl) ?_
  refine hK24 _ _ ?_
  rcases iteE hf with ⟨hc55, hf⟩ | ⟨hc55, hf⟩
  {
  refine W.cond_true (bool_tr e44 hc55) ?_
  refine W.seqK fun K56 hK56 => ?_
  refine W.region ?_
  refine WL.assign (v := .bool false) rfl ?_
  refine WL.nil ?_
  refine hK56 _ _ ?_
  refine W.ret ?_
  have hr := Option.some.inj hf; subst hr
  have hr := hbbs19 _ rfl; subst hr
  have hf := hfs19
  have hr := Option.some.inj hf; subst hr
  exact ⟨_, resOk_one rfl rfl, (), rfl, (hs.mask []).pick []⟩ }
  {
  refine W.cond_false (bool_tr e44 hc55) ?_
  refine W.skip ?_
  refine hK23 _ _ ?_
  refine W.region ?_
  refine WL.move (v := .int .i64 x18) ((hu43 5 rfl).trans h17_5) ?_
  obtain ⟨x57, ex57, hf⟩ := letE hf
  refine WL.bin (v := .int .i64 x57) rfl rfl (ib_as ex57 (ib_add _ _ _)) ?_
  refine WL.assign (v := .int .i64 x57) rfl ?_
  refine WL.nil ?_
  exact ⟨_, (Option.some.inj hf).symm, ((hu43 0 rfl).trans h17_0), ((hu43 1 rfl).trans h17_1), rfl, (hs.mask []).pick [2, 3]⟩ } } }
  {
  refine W.cond_false (bool_tr rfl hc22) ?_
  refine W.exit ?_
  have hr := Option.some.inj hf; subst hr
  have hr := hbbs19 _ rfl; subst hr
  have hf := hfs19
  exact Jk14  _ _  ((hs.mask []).pick []) hf } }
theorem esref32_EqualField.calls {ok : Nat → Prop} {w0 : World} {x1 : fold_Field} {x5 : fold_Field} {v2 : Value} {v6 : Value} {r : Bool} (hf : esref32_EqualField x1 x5 = some r) (i0 : (vl t_fold_Field x1 v2).holds ok w0) (i1 : (vl t_fold_Field x5 v6).holds ok w0) :
    Calls Try.prog 33 #[v2, v6] w0 fun e w' => ∃ v, e = .returned v ∧ ∃ y : Unit, v = .bool r ∧ St ok (bz w0) w' [] [] := by
  unfold esref32_EqualField at hf
  refine calls_of_W (fn := Try.f33) (N := 52) Try.func33 rfl Try.ntmps33 rfl ?_
  have hs : St ok (bz w0) w0 [vl t_fold_Field x1 v2, vl t_fold_Field x5 v6] [] := St.init (All.cons i0 (All.cons i1 All.nil))
  clear i0 i1
  obtain ⟨cs3, hl4, rfl⟩ := hs.aggv (n := 12) 0 rfl rfl rfl
  obtain ⟨cs7, hl8, rfl⟩ := hs.aggv (n := 12) 1 rfl rfl rfl
  refine W.seqK fun K9 hK9 => ?_
  refine W.region ?_
  refine WL.box (vs := cs3) hs rfl rfl (fun g10 w hs => ?_)
  refine WL.box (vs := cs7) hs rfl rfl (fun g11 w hs => ?_)
  refine WL.assign (v := .bool false) rfl ?_
  refine WL.nil ?_
  refine hK9 _ _ ?_
  refine W.seqK fun K12 hK12 => ?_
  have Jk15 : ∀ (x14 : Bool) (ρ : Env) (w : World), ρ 4 = .bool x14 → St ok (bz w0) w [] [] → esref32_EqualField.j1 x14 = some r → K12 ρ w := by
    intro x14 ρ w h13_4 hs hf
    refine hK12 _ _ ?_
    unfold esref32_EqualField.j1 at hf
    refine W.ret ?_
    have hr := Option.some.inj hf; subst hr
    exact ⟨_, resOk_one rfl h13_4, (), rfl, (hs.mask []).pick []⟩
  refine W.region ?_
  refine WL.fieldAddr (m := 0) rfl FA57_0 rfl ?_
  refine WL.loadF (z := x1.Name) F_fold_Field_Name hs 1 rfl 0 rfl rfl TI9 (.inr rfl) rfl rfl (fun v16 hs => ?_)
  obtain rfl := hs.str 0 rfl
  refine WL.fieldAddr (m := 0) rfl FA57_0 rfl ?_
  refine WL.loadF (z := x5.Name) F_fold_Field_Name hs 0 rfl 2 rfl rfl TI9 (.inr rfl) rfl rfl (fun v17 hs => ?_)
  obtain rfl := hs.str 0 rfl
  refine WL.binS (v := .bool (x1.Name == x5.Name)) rfl rfl (sb_eql _ _) ?_
  refine WL.move (v := .bool (x1.Name == x5.Name)) rfl ?_
  rcases iteE hf with ⟨hc18, hf⟩ | ⟨hc18, hf⟩
  {
  refine WL.fieldAddr (m := 1) rfl FA57_1 rfl ?_ (hg := (wanted_of rfl rfl (bool_tr rfl hc18)).trans rfl)
  refine WL.loadF (z := x1.Register) F_fold_Field_Register hs 1 rfl 2 rfl rfl TI54 (.inl rfl) rfl rfl (fun v19 hs => ?_) (hg := (wanted_of rfl rfl (bool_tr rfl hc18)).trans rfl)
  obtain ⟨cs20, hl21, rfl⟩ := hs.aggv (n := 6) 0 rfl rfl rfl
  refine WL.fieldAddr (m := 1) rfl FA57_1 rfl ?_ (hg := (wanted_of rfl rfl (bool_tr rfl hc18)).trans rfl)
  refine WL.loadF (z := x5.Register) F_fold_Field_Register hs 0 rfl 4 rfl rfl TI54 (.inl rfl) rfl rfl (fun v22 hs => ?_) (hg := (wanted_of rfl rfl (bool_tr rfl hc18)).trans rfl)
  obtain ⟨cs23, hl24, rfl⟩ := hs.aggv (n := 6) 0 rfl rfl rfl
  obtain rfl := open_fold_Register hs 1 rfl
  obtain rfl := open_fold_Register hs 0 rfl
  refine WL.eqA rfl rfl EG54 (EQ54 (⟨x1.Register.Set, x1.Register.Tag, x1.Register.Client, x1.Register.Seq, x1.Register.N, x1.Register.S⟩ : fold_Register) (⟨x5.Register.Set, x5.Register.Tag, x5.Register.Client, x5.Register.Seq, x5.Register.N, x5.Register.S⟩ : fold_Register)) ?_ (hg := (wanted_of rfl rfl (bool_tr rfl hc18)).trans rfl)
  refine WL.pickT (v := .bool (decide ((⟨x1.Register.Set, x1.Register.Tag, x1.Register.Client, x1.Register.Seq, x1.Register.N, x1.Register.S⟩ : fold_Register) = (⟨x5.Register.Set, x5.Register.Tag, x5.Register.Client, x5.Register.Seq, x5.Register.N, x5.Register.S⟩ : fold_Register)))) (bool_tr rfl hc18) rfl ?_
  refine WL.move (v := .bool (decide ((⟨x1.Register.Set, x1.Register.Tag, x1.Register.Client, x1.Register.Seq, x1.Register.N, x1.Register.S⟩ : fold_Register) = (⟨x5.Register.Set, x5.Register.Tag, x5.Register.Client, x5.Register.Seq, x5.Register.N, x5.Register.S⟩ : fold_Register)))) rfl ?_
  rcases iteE hf with ⟨hc25, hf⟩ | ⟨hc25, hf⟩
  {
  refine WL.fieldAddr (m := 7) rfl FA57_2 rfl ?_ (hg := (wanted_of rfl rfl (bool_tr rfl hc25)).trans rfl)
  refine WL.loadF (z := x1.HasMax) F_fold_Field_HasMax hs 1 rfl 4 rfl rfl TI4 (.inr rfl) rfl rfl (fun v26 hs => ?_) (hg := (wanted_of rfl rfl (bool_tr rfl hc25)).trans rfl)
  obtain rfl := hs.bool 0 rfl
  refine WL.fieldAddr (m := 7) rfl FA57_2 rfl ?_ (hg := (wanted_of rfl rfl (bool_tr rfl hc25)).trans rfl)
  refine WL.loadF (z := x5.HasMax) F_fold_Field_HasMax hs 0 rfl 6 rfl rfl TI4 (.inr rfl) rfl rfl (fun v27 hs => ?_) (hg := (wanted_of rfl rfl (bool_tr rfl hc25)).trans rfl)
  obtain rfl := hs.bool 0 rfl
  refine WL.eqB UN4 rfl rfl ?_ (hg := (wanted_of rfl rfl (bool_tr rfl hc25)).trans rfl)
  refine WL.pickT (v := .bool (x1.HasMax == x5.HasMax)) (bool_tr rfl hc25) rfl ?_
  refine WL.move (v := .bool (x1.HasMax == x5.HasMax)) rfl ?_
  rcases iteE hf with ⟨hc28, hf⟩ | ⟨hc28, hf⟩
  {
  refine WL.fieldAddr (m := 8) rfl FA57_3 rfl ?_ (hg := (wanted_of rfl rfl (bool_tr rfl hc28)).trans rfl)
  refine WL.loadF (z := x1.Max) F_fold_Field_Max hs 1 rfl 6 rfl rfl TI2 (.inr rfl) rfl rfl (fun v29 hs => ?_) (hg := (wanted_of rfl rfl (bool_tr rfl hc28)).trans rfl)
  obtain rfl := hs.int 0 rfl
  refine WL.fieldAddr (m := 8) rfl FA57_3 rfl ?_ (hg := (wanted_of rfl rfl (bool_tr rfl hc28)).trans rfl)
  refine WL.loadF (z := x5.Max) F_fold_Field_Max hs 0 rfl 8 rfl rfl TI2 (.inr rfl) rfl rfl (fun v30 hs => ?_) (hg := (wanted_of rfl rfl (bool_tr rfl hc28)).trans rfl)
  obtain rfl := hs.int 0 rfl
  refine WL.bin (v := .bool (x1.Max == x5.Max)) rfl rfl (ib_eql _ _ _) ?_ (hg := (wanted_of rfl rfl (bool_tr rfl hc28)).trans rfl)
  refine WL.pickT (v := .bool (x1.Max == x5.Max)) (bool_tr rfl hc28) rfl ?_
  refine WL.move (v := .bool (x1.Max == x5.Max)) rfl ?_
  rcases iteE hf with ⟨hc31, hf⟩ | ⟨hc31, hf⟩
  {
  refine WL.fieldAddr (m := 9) rfl FA57_4 rfl ?_ (hg := (wanted_of rfl rfl (bool_tr rfl hc31)).trans rfl)
  refine WL.loadF (z := x1.Sum) F_fold_Field_Sum hs 1 rfl 8 rfl rfl TI2 (.inr rfl) rfl rfl (fun v32 hs => ?_) (hg := (wanted_of rfl rfl (bool_tr rfl hc31)).trans rfl)
  obtain rfl := hs.int 0 rfl
  refine WL.fieldAddr (m := 9) rfl FA57_4 rfl ?_ (hg := (wanted_of rfl rfl (bool_tr rfl hc31)).trans rfl)
  refine WL.loadF (z := x5.Sum) F_fold_Field_Sum hs 0 rfl 10 rfl rfl TI2 (.inr rfl) rfl rfl (fun v33 hs => ?_) (hg := (wanted_of rfl rfl (bool_tr rfl hc31)).trans rfl)
  obtain rfl := hs.int 0 rfl
  refine WL.bin (v := .bool (x1.Sum == x5.Sum)) rfl rfl (ib_eql _ _ _) ?_ (hg := (wanted_of rfl rfl (bool_tr rfl hc31)).trans rfl)
  refine WL.pickT (v := .bool (x1.Sum == x5.Sum)) (bool_tr rfl hc31) rfl ?_
  refine WL.move (v := .bool (x1.Sum == x5.Sum)) rfl ?_
  rcases iteE hf with ⟨hc34, hf⟩ | ⟨hc34, hf⟩
  {
  refine WL.fieldAddr (m := 11) rfl FA57_6 rfl ?_ (hg := (wanted_of rfl rfl (bool_tr rfl hc34)).trans rfl)
  refine WL.loadF (z := x1.Flag) F_fold_Field_Flag hs 1 rfl 10 rfl rfl TI4 (.inr rfl) rfl rfl (fun v35 hs => ?_) (hg := (wanted_of rfl rfl (bool_tr rfl hc34)).trans rfl)
  obtain rfl := hs.bool 0 rfl
  refine WL.fieldAddr (m := 11) rfl FA57_6 rfl ?_ (hg := (wanted_of rfl rfl (bool_tr rfl hc34)).trans rfl)
  refine WL.loadF (z := x5.Flag) F_fold_Field_Flag hs 0 rfl 12 rfl rfl TI4 (.inr rfl) rfl rfl (fun v36 hs => ?_) (hg := (wanted_of rfl rfl (bool_tr rfl hc34)).trans rfl)
  obtain rfl := hs.bool 0 rfl
  refine WL.eqB UN4 rfl rfl ?_ (hg := (wanted_of rfl rfl (bool_tr rfl hc34)).trans rfl)
  refine WL.pickT (v := .bool (x1.Flag == x5.Flag)) (bool_tr rfl hc34) rfl ?_
  refine WL.move (v := .bool (x1.Flag == x5.Flag)) rfl ?_
  rcases iteE hf with ⟨hc37, hf⟩ | ⟨hc37, hf⟩
  {
  refine WL.fieldAddr (m := 10) rfl FA57_5 rfl ?_ (hg := (wanted_of rfl rfl (bool_tr rfl hc37)).trans rfl)
  refine WL.loadF (z := x1.Elems) F_fold_Field_Elems hs 1 rfl 12 rfl rfl TI55 (.inr rfl) rfl rfl (fun v38 hs => ?_) (hg := (wanted_of rfl rfl (bool_tr rfl hc37)).trans rfl)
  obtain ⟨a39, c40, rfl⟩ := hs.slice 0 rfl
  refine WL.fieldAddr (m := 10) rfl FA57_5 rfl ?_ (hg := (wanted_of rfl rfl (bool_tr rfl hc37)).trans rfl)
  refine WL.loadF (z := x5.Elems) F_fold_Field_Elems hs 0 rfl 14 rfl rfl TI55 (.inr rfl) rfl rfl (fun v41 hs => ?_) (hg := (wanted_of rfl rfl (bool_tr rfl hc37)).trans rfl)
  obtain ⟨a42, c43, rfl⟩ := hs.slice 0 rfl
  obtain ⟨x44, hxx44, hf⟩ := bindE hf
  refine WL.call (vs := [.slice a39 (x1.Elems).length c40, .slice a42 (x5.Elems).length c43]) hs FN56 ⟨rfl, ⟨rfl, trivial⟩⟩ (fun ok hA => esref32_EqualStrings.calls (x1 := x1.Elems) (x4 := x5.Elems) hxx44 (hA.get 1 rfl) (hA.get 0 rfl)) ?_ (hg := (wanted_of rfl rfl (bool_tr rfl hc37)).trans rfl)
  rintro _ w hs
  refine WL.pickT (v := .bool x44) (bool_tr rfl hc37) rfl ?_
  refine WL.assign (v := .bool x44) rfl ?_
  refine WL.nil ?_
  exact Jk15 x44 _ _ rfl ((hs.mask []).pick []) hf }
  {
  refine WL.pass ((wanted_of rfl rfl (bool_tr rfl hc37)).trans rfl) rfl ?_
  refine WL.pass ((wanted_of rfl rfl (bool_tr rfl hc37)).trans rfl) rfl ?_
  refine WL.pass ((wanted_of rfl rfl (bool_tr rfl hc37)).trans rfl) rfl ?_
  refine WL.pass ((wanted_of rfl rfl (bool_tr rfl hc37)).trans rfl) rfl ?_
  refine WL.pass ((wanted_of rfl rfl (bool_tr rfl hc37)).trans rfl) rfl ?_
  refine WL.pickF (v := .bool false) (bool_tr rfl hc37) rfl ?_
  refine WL.assign (v := .bool false) rfl ?_
  refine WL.nil ?_
  exact Jk15 false _ _ rfl ((hs.mask []).pick []) hf } }
  {
  refine WL.pass ((wanted_of rfl rfl (bool_tr rfl hc34)).trans rfl) rfl ?_
  refine WL.pass ((wanted_of rfl rfl (bool_tr rfl hc34)).trans rfl) rfl ?_
  refine WL.pass ((wanted_of rfl rfl (bool_tr rfl hc34)).trans rfl) rfl ?_
  refine WL.pass ((wanted_of rfl rfl (bool_tr rfl hc34)).trans rfl) rfl ?_
  refine WL.pass ((wanted_of rfl rfl (bool_tr rfl hc34)).trans rfl) rfl ?_
  refine WL.pickF (v := .bool false) (bool_tr rfl hc34) rfl ?_
  refine WL.move (v := .bool false) rfl ?_
  refine WL.pass ((wanted_of rfl rfl rfl).trans rfl) rfl ?_
  refine WL.pass ((wanted_of rfl rfl rfl).trans rfl) rfl ?_
  refine WL.pass ((wanted_of rfl rfl rfl).trans rfl) rfl ?_
  refine WL.pass ((wanted_of rfl rfl rfl).trans rfl) rfl ?_
  refine WL.pass ((wanted_of rfl rfl rfl).trans rfl) rfl ?_
  refine WL.pickF (v := .bool false) rfl rfl ?_
  refine WL.assign (v := .bool false) rfl ?_
  refine WL.nil ?_
  exact Jk15 false _ _ rfl ((hs.mask []).pick []) hf } }
  {
  refine WL.pass ((wanted_of rfl rfl (bool_tr rfl hc31)).trans rfl) rfl ?_
  refine WL.pass ((wanted_of rfl rfl (bool_tr rfl hc31)).trans rfl) rfl ?_
  refine WL.pass ((wanted_of rfl rfl (bool_tr rfl hc31)).trans rfl) rfl ?_
  refine WL.pass ((wanted_of rfl rfl (bool_tr rfl hc31)).trans rfl) rfl ?_
  refine WL.pass ((wanted_of rfl rfl (bool_tr rfl hc31)).trans rfl) rfl ?_
  refine WL.pickF (v := .bool false) (bool_tr rfl hc31) rfl ?_
  refine WL.move (v := .bool false) rfl ?_
  refine WL.pass ((wanted_of rfl rfl rfl).trans rfl) rfl ?_
  refine WL.pass ((wanted_of rfl rfl rfl).trans rfl) rfl ?_
  refine WL.pass ((wanted_of rfl rfl rfl).trans rfl) rfl ?_
  refine WL.pass ((wanted_of rfl rfl rfl).trans rfl) rfl ?_
  refine WL.pass ((wanted_of rfl rfl rfl).trans rfl) rfl ?_
  refine WL.pickF (v := .bool false) rfl rfl ?_
  refine WL.move (v := .bool false) rfl ?_
  refine WL.pass ((wanted_of rfl rfl rfl).trans rfl) rfl ?_
  refine WL.pass ((wanted_of rfl rfl rfl).trans rfl) rfl ?_
  refine WL.pass ((wanted_of rfl rfl rfl).trans rfl) rfl ?_
  refine WL.pass ((wanted_of rfl rfl rfl).trans rfl) rfl ?_
  refine WL.pass ((wanted_of rfl rfl rfl).trans rfl) rfl ?_
  refine WL.pickF (v := .bool false) rfl rfl ?_
  refine WL.assign (v := .bool false) rfl ?_
  refine WL.nil ?_
  exact Jk15 false _ _ rfl ((hs.mask []).pick []) hf } }
  {
  refine WL.pass ((wanted_of rfl rfl (bool_tr rfl hc28)).trans rfl) rfl ?_
  refine WL.pass ((wanted_of rfl rfl (bool_tr rfl hc28)).trans rfl) rfl ?_
  refine WL.pass ((wanted_of rfl rfl (bool_tr rfl hc28)).trans rfl) rfl ?_
  refine WL.pass ((wanted_of rfl rfl (bool_tr rfl hc28)).trans rfl) rfl ?_
  refine WL.pass ((wanted_of rfl rfl (bool_tr rfl hc28)).trans rfl) rfl ?_
  refine WL.pickF (v := .bool false) (bool_tr rfl hc28) rfl ?_
  refine WL.move (v := .bool false) rfl ?_
  refine WL.pass ((wanted_of rfl rfl rfl).trans rfl) rfl ?_
  refine WL.pass ((wanted_of rfl rfl rfl).trans rfl) rfl ?_
  refine WL.pass ((wanted_of rfl rfl rfl).trans rfl) rfl ?_
  refine WL.pass ((wanted_of rfl rfl rfl).trans rfl) rfl ?_
  refine WL.pass ((wanted_of rfl rfl rfl).trans rfl) rfl ?_
  refine WL.pickF (v := .bool false) rfl rfl ?_
  refine WL.move (v := .bool false) rfl ?_
  refine WL.pass ((wanted_of rfl rfl rfl).trans rfl) rfl ?_
  refine WL.pass ((wanted_of rfl rfl rfl).trans rfl) rfl ?_
  refine WL.pass ((wanted_of rfl rfl rfl).trans rfl) rfl ?_
  refine WL.pass ((wanted_of rfl rfl rfl).trans rfl) rfl ?_
  refine WL.pass ((wanted_of rfl rfl rfl).trans rfl) rfl ?_
  refine WL.pickF (v := .bool false) rfl rfl ?_
  refine WL.move (v := .bool false) rfl ?_
  refine WL.pass ((wanted_of rfl rfl rfl).trans rfl) rfl ?_
  refine WL.pass ((wanted_of rfl rfl rfl).trans rfl) rfl ?_
  refine WL.pass ((wanted_of rfl rfl rfl).trans rfl) rfl ?_
  refine WL.pass ((wanted_of rfl rfl rfl).trans rfl) rfl ?_
  refine WL.pass ((wanted_of rfl rfl rfl).trans rfl) rfl ?_
  refine WL.pickF (v := .bool false) rfl rfl ?_
  refine WL.assign (v := .bool false) rfl ?_
  refine WL.nil ?_
  exact Jk15 false _ _ rfl ((hs.mask []).pick []) hf } }
  {
  refine WL.pass ((wanted_of rfl rfl (bool_tr rfl hc25)).trans rfl) rfl ?_
  refine WL.pass ((wanted_of rfl rfl (bool_tr rfl hc25)).trans rfl) rfl ?_
  refine WL.pass ((wanted_of rfl rfl (bool_tr rfl hc25)).trans rfl) rfl ?_
  refine WL.pass ((wanted_of rfl rfl (bool_tr rfl hc25)).trans rfl) rfl ?_
  refine WL.pass ((wanted_of rfl rfl (bool_tr rfl hc25)).trans rfl) rfl ?_
  refine WL.pickF (v := .bool false) (bool_tr rfl hc25) rfl ?_
  refine WL.move (v := .bool false) rfl ?_
  refine WL.pass ((wanted_of rfl rfl rfl).trans rfl) rfl ?_
  refine WL.pass ((wanted_of rfl rfl rfl).trans rfl) rfl ?_
  refine WL.pass ((wanted_of rfl rfl rfl).trans rfl) rfl ?_
  refine WL.pass ((wanted_of rfl rfl rfl).trans rfl) rfl ?_
  refine WL.pass ((wanted_of rfl rfl rfl).trans rfl) rfl ?_
  refine WL.pickF (v := .bool false) rfl rfl ?_
  refine WL.move (v := .bool false) rfl ?_
  refine WL.pass ((wanted_of rfl rfl rfl).trans rfl) rfl ?_
  refine WL.pass ((wanted_of rfl rfl rfl).trans rfl) rfl ?_
  refine WL.pass ((wanted_of rfl rfl rfl).trans rfl) rfl ?_
  refine WL.pass ((wanted_of rfl rfl rfl).trans rfl) rfl ?_
  refine WL.pass ((wanted_of rfl rfl rfl).trans rfl) rfl ?_
  refine WL.pickF (v := .bool false) rfl rfl ?_
  refine WL.move (v := .bool false) rfl ?_
  refine WL.pass ((wanted_of rfl rfl rfl).trans rfl) rfl ?_
  refine WL.pass ((wanted_of rfl rfl rfl).trans rfl) rfl ?_
  refine WL.pass ((wanted_of rfl rfl rfl).trans rfl) rfl ?_
  refine WL.pass ((wanted_of rfl rfl rfl).trans rfl) rfl ?_
  refine WL.pass ((wanted_of rfl rfl rfl).trans rfl) rfl ?_
  refine WL.pickF (v := .bool false) rfl rfl ?_
  refine WL.move (v := .bool false) rfl ?_
  refine WL.pass ((wanted_of rfl rfl rfl).trans rfl) rfl ?_
  refine WL.pass ((wanted_of rfl rfl rfl).trans rfl) rfl ?_
  refine WL.pass ((wanted_of rfl rfl rfl).trans rfl) rfl ?_
  refine WL.pass ((wanted_of rfl rfl rfl).trans rfl) rfl ?_
  refine WL.pass ((wanted_of rfl rfl rfl).trans rfl) rfl ?_
  refine WL.pickF (v := .bool false) rfl rfl ?_
  refine WL.assign (v := .bool false) rfl ?_
  refine WL.nil ?_
  exact Jk15 false _ _ rfl ((hs.mask []).pick []) hf } }
  {
  refine WL.pass ((wanted_of rfl rfl (bool_tr rfl hc18)).trans rfl) rfl ?_
  refine WL.pass ((wanted_of rfl rfl (bool_tr rfl hc18)).trans rfl) rfl ?_
  refine WL.pass ((wanted_of rfl rfl (bool_tr rfl hc18)).trans rfl) rfl ?_
  refine WL.pass ((wanted_of rfl rfl (bool_tr rfl hc18)).trans rfl) rfl ?_
  refine WL.pass ((wanted_of rfl rfl (bool_tr rfl hc18)).trans rfl) rfl ?_
  refine WL.pickF (v := .bool false) (bool_tr rfl hc18) rfl ?_
  refine WL.move (v := .bool false) rfl ?_
  refine WL.pass ((wanted_of rfl rfl rfl).trans rfl) rfl ?_
  refine WL.pass ((wanted_of rfl rfl rfl).trans rfl) rfl ?_
  refine WL.pass ((wanted_of rfl rfl rfl).trans rfl) rfl ?_
  refine WL.pass ((wanted_of rfl rfl rfl).trans rfl) rfl ?_
  refine WL.pass ((wanted_of rfl rfl rfl).trans rfl) rfl ?_
  refine WL.pickF (v := .bool false) rfl rfl ?_
  refine WL.move (v := .bool false) rfl ?_
  refine WL.pass ((wanted_of rfl rfl rfl).trans rfl) rfl ?_
  refine WL.pass ((wanted_of rfl rfl rfl).trans rfl) rfl ?_
  refine WL.pass ((wanted_of rfl rfl rfl).trans rfl) rfl ?_
  refine WL.pass ((wanted_of rfl rfl rfl).trans rfl) rfl ?_
  refine WL.pass ((wanted_of rfl rfl rfl).trans rfl) rfl ?_
  refine WL.pickF (v := .bool false) rfl rfl ?_
  refine WL.move (v := .bool false) rfl ?_
  refine WL.pass ((wanted_of rfl rfl rfl).trans rfl) rfl ?_
  refine WL.pass ((wanted_of rfl rfl rfl).trans rfl) rfl ?_
  refine WL.pass ((wanted_of rfl rfl rfl).trans rfl) rfl ?_
  refine WL.pass ((wanted_of rfl rfl rfl).trans rfl) rfl ?_
  refine WL.pass ((wanted_of rfl rfl rfl).trans rfl) rfl ?_
  refine WL.pickF (v := .bool false) rfl rfl ?_
  refine WL.move (v := .bool false) rfl ?_
  refine WL.pass ((wanted_of rfl rfl rfl).trans rfl) rfl ?_
  refine WL.pass ((wanted_of rfl rfl rfl).trans rfl) rfl ?_
  refine WL.pass ((wanted_of rfl rfl rfl).trans rfl) rfl ?_
  refine WL.pass ((wanted_of rfl rfl rfl).trans rfl) rfl ?_
  refine WL.pass ((wanted_of rfl rfl rfl).trans rfl) rfl ?_
  refine WL.pickF (v := .bool false) rfl rfl ?_
  refine WL.move (v := .bool false) rfl ?_
  refine WL.pass ((wanted_of rfl rfl rfl).trans rfl) rfl ?_
  refine WL.pass ((wanted_of rfl rfl rfl).trans rfl) rfl ?_
  refine WL.pass ((wanted_of rfl rfl rfl).trans rfl) rfl ?_
  refine WL.pass ((wanted_of rfl rfl rfl).trans rfl) rfl ?_
  refine WL.pass ((wanted_of rfl rfl rfl).trans rfl) rfl ?_
  refine WL.pickF (v := .bool false) rfl rfl ?_
  refine WL.assign (v := .bool false) rfl ?_
  refine WL.nil ?_
  exact Jk15 false _ _ rfl ((hs.mask []).pick []) hf }
end Go.Proofs.Ytlbcfjblpopcnaa
set_option linter.unusedVariables false
set_option linter.unusedSimpArgs false
namespace Go.Proofs.Ytlbcfjblpopcnaa
open Go Go.RowKit Go.Proofs.YtlbcfjblpopcnaaL
set_option maxRecDepth 100000
set_option maxHeartbeats 4000000
theorem esref32_EqualObject.calls {ok : Nat → Prop} {w0 : World} {x1 : fold_Object} {x5 : fold_Object} {v2 : Value} {v6 : Value} {r : Bool} (hf : esref32_EqualObject x1 x5 = some r) (i0 : (vl t_fold_Object x1 v2).holds ok w0) (i1 : (vl t_fold_Object x5 v6).holds ok w0) :
    Calls Try.prog 31 #[v2, v6] w0 fun e w' => ∃ v, e = .returned v ∧ ∃ y : Unit, v = .bool r ∧ St ok (bz w0) w' [] [] := by
  unfold esref32_EqualObject at hf
  refine calls_of_W (fn := Try.f31) (N := 39) Try.func31 rfl Try.ntmps31 rfl ?_
  have hs : St ok (bz w0) w0 [vl t_fold_Object x1 v2, vl t_fold_Object x5 v6] [] := St.init (All.cons i0 (All.cons i1 All.nil))
  clear i0 i1
  obtain ⟨cs3, hl4, rfl⟩ := hs.aggv (n := 2) 0 rfl rfl rfl
  obtain ⟨cs7, hl8, rfl⟩ := hs.aggv (n := 2) 1 rfl rfl rfl
  refine W.seqK fun K9 hK9 => ?_
  refine W.region ?_
  refine WL.box (vs := cs3) hs rfl rfl (fun g10 w hs => ?_)
  refine WL.box (vs := cs7) hs rfl rfl (fun g11 w hs => ?_)
  refine WL.assign (v := .bool false) rfl ?_
  refine WL.nil ?_
  refine hK9 _ _ ?_
  refine W.seqK fun K12 hK12 => ?_
  refine W.seqK fun K13 hK13 => ?_
  have Jk16 : ∀ (x15 : Bool) (ρ : Env) (w : World), ρ 2 = .pointer (some ⟨g10, 0, none⟩) → ρ 3 = .pointer (some ⟨g11, 0, none⟩) → ρ 19 = .bool x15 → St ok (bz w0) w [vl t_fold_Object x5 (.agg cs7.toArray), vl t_fold_Object x1 (.agg cs3.toArray)] [blk g11 51 cs7, blk g10 51 cs3] → esref32_EqualObject.j2 x1 x5 x15 = some r → K13 ρ w := by
    intro x15 ρ w h14_2 h14_3 h14_19 hs hf
    refine hK13 _ _ ?_
    unfold esref32_EqualObject.j2 at hf
    rcases iteE hf with ⟨hc17, hf⟩ | ⟨hc17, hf⟩
    {
    refine W.cond_true (bool_tr h14_19 hc17) ?_
    refine W.seqK fun K18 hK18 => ?_
    refine W.region ?_
    refine WL.assign (v := .bool false) rfl ?_
    refine WL.nil ?_
    refine hK18 _ _ ?_
    refine W.ret ?_
    have hr := Option.some.inj hf; subst hr
    exact ⟨_, resOk_one rfl rfl, (), rfl, (hs.mask []).pick []⟩ }
    {
    refine W.cond_false (bool_tr h14_19 hc17) ?_
    refine W.skip ?_
    refine hK12 _ _ ?_
    refine W.seqK fun K19 hK19 => ?_
    have Jk21 : ∀  (ρ : Env) (w : World), St ok (bz w0) w [] [] → esref32_EqualObject.j1 = some r → K19 ρ w := by
      intro  ρ w  hs hf
      refine hK19 _ _ ?_
      unfold esref32_EqualObject.j1 at hf
      refine W.seqK fun K22 hK22 => ?_
      refine W.region ?_
      refine WL.assign (v := .bool true) rfl ?_
      refine WL.nil ?_
      refine hK22 _ _ ?_
      refine W.ret ?_
      have hr := Option.some.inj hf; subst hr
      exact ⟨_, resOk_one rfl rfl, (), rfl, (hs.mask []).pick []⟩
    refine W.seqK fun K23 hK23 => ?_
    refine W.region ?_
    refine WL.assign (v := .int .i64 0) rfl ?_
    refine WL.nil ?_
    refine hK23 _ _ ?_
    refine W.block ?_
    obtain ⟨bs26, hbs26, hfs26⟩ := bindE hf
    refine W.loop hbs26 (fun s ρ w => match s with | x25 => ρ 2 = .pointer (some ⟨g10, 0, none⟩) ∧ ρ 3 = .pointer (some ⟨g11, 0, none⟩) ∧ ρ 5 = .int .i64 x25 ∧ St ok (bz w0) w [vl t_fold_Object x5 (.agg cs7.toArray), vl t_fold_Object x1 (.agg cs3.toArray)] [blk g11 51 cs7, blk g10 51 cs3]) ⟨h14_2, h14_3, rfl, (hs.mask [true, true]).pick [0, 1]⟩ ?_
    intro x25 ρ w os26 hI hf hbbs26
    obtain ⟨h24_2, h24_3, h24_5, hs⟩ := hI
    unfold esref32_EqualObject.l1 at hf
    refine W.seqK fun K27 hK27 => ?_
    refine W.seqK fun K28 hK28 => ?_
    refine W.region ?_
    refine WL.move (v := .int .i64 x25) h24_5 ?_
    refine WL.fieldAddr (m := 1) h24_2 FA51_1 rfl ?_
    refine WL.loadF (z := x1.Fields) F_fold_Object_Fields hs 1 rfl 1 rfl rfl TI49 (.inr rfl) rfl rfl (fun v29 hs => ?_)
    obtain ⟨a30, c31, rfl⟩ := hs.slice 0 rfl
    refine WL.len (v := .slice a30 (x1.Fields).length c31) rfl (len_slice UN49) ?_
    refine WL.bin (v := .bool (decide (x25 < ((x1.Fields).length : Int)))) rfl rfl (ib_lss _ _ _) ?_
    refine WL.nil ?_
    refine hK28 _ _ ?_
    rcases iteE hf with ⟨hc32, hf⟩ | ⟨hc32, hf⟩
    {
    refine W.cond_true (bool_tr rfl hc32) ?_
    refine W.skip ?_
    refine hK27 _ _ ?_
    refine W.seqK fun K33 hK33 => ?_
    refine W.block ?_
    refine W.seqK fun K34 hK34 => ?_
    obtain ⟨x38, hxx38, hf⟩ := bindE hf
    obtain ⟨x46, hxx46, hf⟩ := bindE hf
    obtain ⟨x51, hxx51, hf⟩ := bindE hf
    refine W.any (by kernel_rfl) 12 0 [true, true, true, true, true, true, true, true, true, true, true, true] rfl rfl (poAt [pv (.pointer (some ⟨g10, 1, none⟩)), pq (fun y : (Option Addr × Nat) => .slice y.1 (x1.Fields).length y.2) (fun v => [vl (tSlice t_fold_Field) x1.Fields v]) (fun v => []), pv (.int .i64 x25), pq (fun y : Addr => .pointer (some y)) (fun v => [pl t_fold_Field x38 (adOf v)]) (fun v => []), pq (fun y : List Value => .agg y.toArray) (fun v => [vl t_fold_Field x38 v]) (fun v => []), pv (.pointer (some ⟨g11, 1, none⟩)), pq (fun y : (Option Addr × Nat) => .slice y.1 (x5.Fields).length y.2) (fun v => [vl (tSlice t_fold_Field) x5.Fields v]) (fun v => []), pv (.int .i64 x25), pq (fun y : Addr => .pointer (some y)) (fun v => [pl t_fold_Field x46 (adOf v)]) (fun v => []), pq (fun y : List Value => .agg y.toArray) (fun v => [vl t_fold_Field x46 v]) (fun v => []), pv (.bool x51), pv (.bool (!x51))]) (Λ := [blk g11 51 cs7, blk g10 51 cs3]) hs (by kernel_rfl) (by kernel_rfl) (by kernel_rfl) ⟨⟨⟨⟨⟨⟨⟨⟨⟨⟨⟨⟨trivial, ?_⟩, ?_⟩, ?_⟩, ?_⟩, ?_⟩, ?_⟩, ?_⟩, ?_⟩, ?_⟩, ?_⟩, ?_⟩, ?_⟩ ?_
    {
    intro ρ w Γx Λx hs hu hp
    refine WL.fieldAddr (m := 1) ((hu 2 rfl).trans h24_2) FA51_1 rfl ?_
    exact WL.nil ⟨rfl, _, rfl, rfl, hs.cutG 0 0⟩ }
    {
    intro ρ w Γx Λx hs hu hp
    have e52 : ρ 27 = .pointer (some ⟨g10, 1, none⟩) := (hp 0 rfl).1
    refine WL.loadF (z := x1.Fields) F_fold_Object_Fields hs (Λx.length + 1) (getApp rfl) (Γx.length + 2) (getApp rfl) rfl TI49 (.inr rfl) e52 rfl (fun v35 hs => ?_)
    obtain ⟨a36, c37, rfl⟩ := hs.slice 0 rfl
    have hs := hs.add (it := vl (tSlice t_fold_Field) x1.Fields (.slice a36 (x1.Fields).length c37)) fun ok hA => hA.get 0 rfl
    exact WL.nil ⟨rfl, _, rfl, ⟨(a36, c37), rfl⟩, hs.cutG 1 1⟩ }
    {
    intro ρ w Γx Λx hs hu hp
    refine WL.move (v := .int .i64 x25) ((hu 5 rfl).trans h24_5) ?_
    exact WL.nil ⟨rfl, _, rfl, rfl, hs.cutG 0 0⟩ }
    {
    intro ρ w Γx Λx hs hu hp
    obtain ⟨⟨⟨a53, c54⟩, e55r⟩, hm56⟩ := hp 1 rfl
    have e55 : ρ 28 = .slice a53 (x1.Fields).length c54 := e55r
    rw [e55r] at hm56
    have hs := hs.memo1 (it := vl (tSlice t_fold_Field) x1.Fields (.slice a53 (x1.Fields).length c54)) (List.mem_append.2 (.inl (hm56 _ (List.mem_of_getElem? (i := 0) rfl))))
    have e57 : ρ 29 = .int .i64 x25 := (hp 2 rfl).1
    refine WL.indexAddr hs 0 rfl UN49 TI57 e55 e57 hxx38 (fun ad39 hs => ?_)
    have hs := hs.add (it := pl t_fold_Field x38 ad39) fun ok hA => hA.get 0 rfl
    exact WL.nil ⟨rfl, _, rfl, ⟨ad39, rfl⟩, hs.cutG 1 2⟩ }
    {
    intro ρ w Γx Λx hs hu hp
    obtain ⟨⟨ad58, e59r⟩, hm60⟩ := hp 3 rfl
    have e59 : ρ 30 = .pointer (some ad58) := e59r
    rw [e59r] at hm60
    have hs := hs.memo1 (it := pl t_fold_Field x38 ad58) (List.mem_append.2 (.inl (hm60 _ (List.mem_of_getElem? (i := 0) rfl))))
    refine WL.loadP hs 0 rfl TI57 (.inl rfl) e59 (fun v40 hs => ?_)
    obtain ⟨cs41, hl42, rfl⟩ := hs.aggv (n := 12) 0 rfl rfl rfl
    have hs := hs.add (it := vl t_fold_Field x38 (.agg cs41.toArray)) fun ok hA => hA.get 0 rfl
    exact WL.nil ⟨rfl, _, rfl, ⟨cs41, rfl⟩, hs.cutG 1 2⟩ }
    {
    intro ρ w Γx Λx hs hu hp
    refine WL.fieldAddr (m := 1) ((hu 3 rfl).trans h24_3) FA51_1 rfl ?_
    exact WL.nil ⟨rfl, _, rfl, rfl, hs.cutG 0 0⟩ }
    {
    intro ρ w Γx Λx hs hu hp
    have e61 : ρ 32 = .pointer (some ⟨g11, 1, none⟩) := (hp 5 rfl).1
    refine WL.loadF (z := x5.Fields) F_fold_Object_Fields hs (Λx.length + 0) (getApp rfl) (Γx.length + 1) (getApp rfl) rfl TI49 (.inr rfl) e61 rfl (fun v43 hs => ?_)
    obtain ⟨a44, c45, rfl⟩ := hs.slice 0 rfl
    have hs := hs.add (it := vl (tSlice t_fold_Field) x5.Fields (.slice a44 (x5.Fields).length c45)) fun ok hA => hA.get 0 rfl
    exact WL.nil ⟨rfl, _, rfl, ⟨(a44, c45), rfl⟩, hs.cutG 1 1⟩ }
    {
    intro ρ w Γx Λx hs hu hp
    refine WL.move (v := .int .i64 x25) ((hu 5 rfl).trans h24_5) ?_
    exact WL.nil ⟨rfl, _, rfl, rfl, hs.cutG 0 0⟩ }
    {
    intro ρ w Γx Λx hs hu hp
    obtain ⟨⟨⟨a62, c63⟩, e64r⟩, hm65⟩ := hp 6 rfl
    have e64 : ρ 33 = .slice a62 (x5.Fields).length c63 := e64r
    rw [e64r] at hm65
    have hs := hs.memo1 (it := vl (tSlice t_fold_Field) x5.Fields (.slice a62 (x5.Fields).length c63)) (List.mem_append.2 (.inl (hm65 _ (List.mem_of_getElem? (i := 0) rfl))))
    have e66 : ρ 34 = .int .i64 x25 := (hp 7 rfl).1
    refine WL.indexAddr hs 0 rfl UN49 TI57 e64 e66 hxx46 (fun ad47 hs => ?_)
    have hs := hs.add (it := pl t_fold_Field x46 ad47) fun ok hA => hA.get 0 rfl
    exact WL.nil ⟨rfl, _, rfl, ⟨ad47, rfl⟩, hs.cutG 1 2⟩ }
    {
    intro ρ w Γx Λx hs hu hp
    obtain ⟨⟨ad67, e68r⟩, hm69⟩ := hp 8 rfl
    have e68 : ρ 35 = .pointer (some ad67) := e68r
    rw [e68r] at hm69
    have hs := hs.memo1 (it := pl t_fold_Field x46 ad67) (List.mem_append.2 (.inl (hm69 _ (List.mem_of_getElem? (i := 0) rfl))))
    refine WL.loadP hs 0 rfl TI57 (.inl rfl) e68 (fun v48 hs => ?_)
    obtain ⟨cs49, hl50, rfl⟩ := hs.aggv (n := 12) 0 rfl rfl rfl
    have hs := hs.add (it := vl t_fold_Field x46 (.agg cs49.toArray)) fun ok hA => hA.get 0 rfl
    exact WL.nil ⟨rfl, _, rfl, ⟨cs49, rfl⟩, hs.cutG 1 2⟩ }
    {
    intro ρ w Γx Λx hs hu hp
    obtain ⟨⟨cs70, e72r⟩, hm73⟩ := hp 4 rfl
    have e72 : ρ 31 = .agg cs70.toArray := e72r
    rw [e72r] at hm73
    have hs := hs.memo1 (it := vl t_fold_Field x38 (.agg cs70.toArray)) (List.mem_append.2 (.inl (hm73 _ (List.mem_of_getElem? (i := 0) rfl))))
    have hl71 := hs.agglen (n := 12) 0 rfl rfl rfl
    obtain ⟨⟨cs74, e76r⟩, hm77⟩ := hp 9 rfl
    have e76 : ρ 36 = .agg cs74.toArray := e76r
    rw [e76r] at hm77
    have hs := hs.memo1 (it := vl t_fold_Field x46 (.agg cs74.toArray)) (List.mem_cons_of_mem _ (List.mem_append.2 (.inl (hm77 _ (List.mem_of_getElem? (i := 0) rfl)))))
    have hl75 := hs.agglen (n := 12) 0 rfl rfl rfl
    refine WL.call (vs := [.agg cs70.toArray, .agg cs74.toArray]) hs FN33 ⟨e72, ⟨e76, trivial⟩⟩ (fun ok hA => esref32_EqualField.calls (x1 := x38) (x5 := x46) hxx51 (hA.get 1 rfl) (hA.get 0 rfl)) ?_
    rintro _ w hs
    exact WL.nil ⟨rfl, _, rfl, rfl, hs.cutG 0 2⟩ }
    {
    intro ρ w Γx Λx hs hu hp
    have e78 : ρ 37 = .bool x51 := (hp 10 rfl).1
    refine WL.not e78 ?_
    exact WL.nil ⟨rfl, _, rfl, rfl, hs.cutG 0 0⟩ }
    {
    intro ρ w hs hu79 hp
    obtain ⟨⟨⟨⟨⟨⟨⟨⟨⟨⟨⟨⟨_, hp0_⟩, hp1_⟩, hp2_⟩, hp3_⟩, hp4_⟩, hp5_⟩, hp6_⟩, hp7_⟩, hp8_⟩, hp9_⟩, hp10_⟩, hp11_⟩ := hp
    have hs : St ok (bz w0) w [vl t_fold_Field x46 (ρ 36), pl t_fold_Field x46 (adOf (ρ 35)), vl (tSlice t_fold_Field) x5.Fields (ρ 33), vl t_fold_Field x38 (ρ 31), pl t_fold_Field x38 (adOf (ρ 30)), vl (tSlice t_fold_Field) x1.Fields (ρ 28), vl (tSlice t_fold_Field) x1.Fields (.slice a30 (x1.Fields).length c31), vl t_fold_Object x5 (.agg cs7.toArray), vl t_fold_Object x1 (.agg cs3.toArray)] [blk g11 51 cs7, blk g10 51 cs3] := hs
    have e80 : ρ 38 = .bool (!x51) := hp11_
    have e81 : ρ 37 = .bool x51 := hp10_
    obtain ⟨cs82, e84⟩ := hp9_
    have e84 : ρ 36 = .agg cs82.toArray := e84
    try rw [e84] at hs
    obtain ⟨ad85, e86⟩ := hp8_
    have e86 : ρ 35 = .pointer (some ad85) := e86
    try rw [e86] at hs
    have e87 : ρ 34 = .int .i64 x25 := hp7_
    obtain ⟨⟨a88, c89⟩, e90⟩ := hp6_
    have e90 : ρ 33 = .slice a88 (x5.Fields).length c89 := e90
    try rw [e90] at hs
    have e91 : ρ 32 = .pointer (some ⟨g11, 1, none⟩) := hp5_
    obtain ⟨cs92, e94⟩ := hp4_
    have e94 : ρ 31 = .agg cs92.toArray := e94
    try rw [e94] at hs
    obtain ⟨ad95, e96⟩ := hp3_
    have e96 : ρ 30 = .pointer (some ad95) := e96
    try rw [e96] at hs
    have e97 : ρ 29 = .int .i64 x25 := hp2_
    obtain ⟨⟨a98, c99⟩, e100⟩ := hp1_
    have e100 : ρ 28 = .slice a98 (x1.Fields).length c99 := e100
    try rw [e100] at hs
    have e101 : ρ 27 = .pointer (some ⟨g10, 1, none⟩) := hp0_
    have hl93 := hs.agglen (n := 12) 3 rfl rfl rfl
    have hl83 := hs.agglen (n := 12) 0 rfl rfl rfl
    refine WA.done (by kernel_rfl) ?_
    refine hK34 _ _ ?_
    rcases iteE hf with ⟨hc102, hf⟩ | ⟨hc102, hf⟩
    {
    refine W.cond_true (bool_tr e80 hc102) ?_
    refine W.seqK fun K103 hK103 => ?_
    refine W.region ?_
    refine WL.assign (v := .bool false) rfl ?_
    refine WL.nil ?_
    refine hK103 _ _ ?_
    refine W.ret ?_
    have hr := Option.some.inj hf; subst hr
    have hr := hbbs26 _ rfl; subst hr
    have hf := hfs26
    have hr := Option.some.inj hf; subst hr
    exact ⟨_, resOk_one rfl rfl, (), rfl, (hs.mask []).pick []⟩ }
    {
    refine W.cond_false (bool_tr e80 hc102) ?_
    refine W.skip ?_
    refine hK33 _ _ ?_
    refine W.region ?_
    refine WL.move (v := .int .i64 x25) ((hu79 5 rfl).trans h24_5) ?_
    obtain ⟨x104, ex104, hf⟩ := letE hf
    refine WL.bin (v := .int .i64 x104) rfl rfl (ib_as ex104 (ib_add _ _ _)) ?_
    refine WL.assign (v := .int .i64 x104) rfl ?_
    refine WL.nil ?_
    exact ⟨_, (Option.some.inj hf).symm, ((hu79 2 rfl).trans h24_2), ((hu79 3 rfl).trans h24_3), rfl, (hs.mask [true, true]).pick [7, 8]⟩ } } }
    {
    refine W.cond_false (bool_tr rfl hc32) ?_
    refine W.exit ?_
    have hr := Option.some.inj hf; subst hr
    have hr := hbbs26 _ rfl; subst hr
    have hf := hfs26
    exact Jk21  _ _  ((hs.mask []).pick []) hf } }
  refine W.region ?_
  refine WL.fieldAddr (m := 0) rfl FA51_0 rfl ?_
  refine WL.loadF (z := x1.Name) F_fold_Object_Name hs 1 rfl 0 rfl rfl TI9 (.inr rfl) rfl rfl (fun v106 hs => ?_)
  obtain rfl := hs.str 0 rfl
  refine WL.fieldAddr (m := 0) rfl FA51_0 rfl ?_
  refine WL.loadF (z := x5.Name) F_fold_Object_Name hs 0 rfl 2 rfl rfl TI9 (.inr rfl) rfl rfl (fun v107 hs => ?_)
  obtain rfl := hs.str 0 rfl
  refine WL.binS (v := .bool (x1.Name != x5.Name)) rfl rfl (sb_neq _ _) ?_
  refine WL.move (v := .bool (x1.Name != x5.Name)) rfl ?_
  rcases iteE hf with ⟨hc108, hf⟩ | ⟨hc108, hf⟩
  {
  refine WL.pass ((wanted_of rfl rfl (bool_tr rfl hc108)).trans rfl) rfl ?_
  refine WL.pass ((wanted_of rfl rfl (bool_tr rfl hc108)).trans rfl) rfl ?_
  refine WL.pass ((wanted_of rfl rfl (bool_tr rfl hc108)).trans rfl) rfl ?_
  refine WL.pass ((wanted_of rfl rfl (bool_tr rfl hc108)).trans rfl) rfl ?_
  refine WL.pass ((wanted_of rfl rfl (bool_tr rfl hc108)).trans rfl) rfl ?_
  refine WL.pass ((wanted_of rfl rfl (bool_tr rfl hc108)).trans rfl) rfl ?_
  refine WL.pass ((wanted_of rfl rfl (bool_tr rfl hc108)).trans rfl) rfl ?_
  refine WL.pickT (v := .bool true) (bool_tr rfl hc108) rfl ?_
  refine WL.nil ?_
  exact Jk16 true _ _ rfl rfl rfl ((hs.mask [true, true]).pick [3, 2]) hf }
  {
  refine WL.fieldAddr (m := 1) rfl FA51_1 rfl ?_ (hg := (wanted_of rfl rfl (bool_tr rfl hc108)).trans rfl)
  refine WL.loadF (z := x1.Fields) F_fold_Object_Fields hs 1 rfl 2 rfl rfl TI49 (.inr rfl) rfl rfl (fun v109 hs => ?_) (hg := (wanted_of rfl rfl (bool_tr rfl hc108)).trans rfl)
  obtain ⟨a110, c111, rfl⟩ := hs.slice 0 rfl
  refine WL.len (v := .slice a110 (x1.Fields).length c111) rfl (len_slice UN49) ?_ (hg := (wanted_of rfl rfl (bool_tr rfl hc108)).trans rfl)
  refine WL.fieldAddr (m := 1) rfl FA51_1 rfl ?_ (hg := (wanted_of rfl rfl (bool_tr rfl hc108)).trans rfl)
  refine WL.loadF (z := x5.Fields) F_fold_Object_Fields hs 0 rfl 4 rfl rfl TI49 (.inr rfl) rfl rfl (fun v112 hs => ?_) (hg := (wanted_of rfl rfl (bool_tr rfl hc108)).trans rfl)
  obtain ⟨a113, c114, rfl⟩ := hs.slice 0 rfl
  refine WL.len (v := .slice a113 (x5.Fields).length c114) rfl (len_slice UN49) ?_ (hg := (wanted_of rfl rfl (bool_tr rfl hc108)).trans rfl)
  refine WL.bin (v := .bool (((x1.Fields).length : Int) != ((x5.Fields).length : Int))) rfl rfl (ib_neq _ _ _) ?_ (hg := (wanted_of rfl rfl (bool_tr rfl hc108)).trans rfl)
  refine WL.pickF (v := .bool (((x1.Fields).length : Int) != ((x5.Fields).length : Int))) (bool_tr rfl hc108) rfl ?_
  refine WL.nil ?_
  exact Jk16 (((x1.Fields).length : Int) != ((x5.Fields).length : Int)) _ _ rfl rfl rfl ((hs.mask [true, true]).pick [5, 4]) hf }
theorem esref32_Equal.calls {ok : Nat → Prop} {w0 : World} {x1 : fold_Store} {x5 : fold_Store} {v2 : Value} {v6 : Value} {r : Bool} (hf : esref32_Equal x1 x5 = some r) (i0 : (vl t_fold_Store x1 v2).holds ok w0) (i1 : (vl t_fold_Store x5 v6).holds ok w0) :
    Calls Try.prog 14 #[v2, v6] w0 fun e w' => ∃ v, e = .returned v ∧ ∃ y : Unit, v = .bool r ∧ St ok (bz w0) w' [] [] := by
  unfold esref32_Equal at hf
  refine calls_of_W (fn := Try.f14) (N := 32) Try.func14 rfl Try.ntmps14 rfl ?_
  have hs : St ok (bz w0) w0 [vl t_fold_Store x1 v2, vl t_fold_Store x5 v6] [] := St.init (All.cons i0 (All.cons i1 All.nil))
  clear i0 i1
  obtain ⟨cs3, hl4, rfl⟩ := hs.aggv (n := 1) 0 rfl rfl rfl
  obtain ⟨cs7, hl8, rfl⟩ := hs.aggv (n := 1) 1 rfl rfl rfl
  refine W.seqK fun K9 hK9 => ?_
  refine W.region ?_
  refine WL.box (vs := cs3) hs rfl rfl (fun g10 w hs => ?_)
  refine WL.box (vs := cs7) hs rfl rfl (fun g11 w hs => ?_)
  refine WL.assign (v := .bool false) rfl ?_
  refine WL.nil ?_
  refine hK9 _ _ ?_
  refine W.seqK fun K12 hK12 => ?_
  refine W.seqK fun K13 hK13 => ?_
  refine W.region ?_
  refine WL.fieldAddr (m := 0) rfl FA29_0 rfl ?_
  refine WL.loadF (z := x1.Objects) F_fold_Store_Objects hs 1 rfl 0 rfl rfl TI27 (.inr rfl) rfl rfl (fun v14 hs => ?_)
  obtain ⟨a15, c16, rfl⟩ := hs.slice 0 rfl
  refine WL.len (v := .slice a15 (x1.Objects).length c16) rfl (len_slice UN27) ?_
  refine WL.fieldAddr (m := 0) rfl FA29_0 rfl ?_
  refine WL.loadF (z := x5.Objects) F_fold_Store_Objects hs 0 rfl 2 rfl rfl TI27 (.inr rfl) rfl rfl (fun v17 hs => ?_)
  obtain ⟨a18, c19, rfl⟩ := hs.slice 0 rfl
  refine WL.len (v := .slice a18 (x5.Objects).length c19) rfl (len_slice UN27) ?_
  refine WL.bin (v := .bool (((x1.Objects).length : Int) != ((x5.Objects).length : Int))) rfl rfl (ib_neq _ _ _) ?_
  refine WL.nil ?_
  refine hK13 _ _ ?_
  rcases iteE hf with ⟨hc20, hf⟩ | ⟨hc20, hf⟩
  {
  refine W.cond_true (bool_tr rfl hc20) ?_
  refine W.seqK fun K21 hK21 => ?_
  refine W.region ?_
  refine WL.assign (v := .bool false) rfl ?_
  refine WL.nil ?_
  refine hK21 _ _ ?_
  refine W.ret ?_
  have hr := Option.some.inj hf; subst hr
  exact ⟨_, resOk_one rfl rfl, (), rfl, (hs.mask []).pick []⟩ }
  {
  refine W.cond_false (bool_tr rfl hc20) ?_
  refine W.skip ?_
  refine hK12 _ _ ?_
  refine W.seqK fun K22 hK22 => ?_
  have Jk24 : ∀  (ρ : Env) (w : World), St ok (bz w0) w [] [] → esref32_Equal.j1 = some r → K22 ρ w := by
    intro  ρ w  hs hf
    refine hK22 _ _ ?_
    unfold esref32_Equal.j1 at hf
    refine W.seqK fun K25 hK25 => ?_
    refine W.region ?_
    refine WL.assign (v := .bool true) rfl ?_
    refine WL.nil ?_
    refine hK25 _ _ ?_
    refine W.ret ?_
    have hr := Option.some.inj hf; subst hr
    exact ⟨_, resOk_one rfl rfl, (), rfl, (hs.mask []).pick []⟩
  refine W.seqK fun K26 hK26 => ?_
  refine W.region ?_
  refine WL.assign (v := .int .i64 0) rfl ?_
  refine WL.nil ?_
  refine hK26 _ _ ?_
  refine W.block ?_
  obtain ⟨bs29, hbs29, hfs29⟩ := bindE hf
  refine W.loop hbs29 (fun s ρ w => match s with | x28 => ρ 2 = .pointer (some ⟨g10, 0, none⟩) ∧ ρ 3 = .pointer (some ⟨g11, 0, none⟩) ∧ ρ 5 = .int .i64 x28 ∧ St ok (bz w0) w [vl t_fold_Store x5 (.agg cs7.toArray), vl t_fold_Store x1 (.agg cs3.toArray)] [blk g11 29 cs7, blk g10 29 cs3]) ⟨rfl, rfl, rfl, (hs.mask [true, true]).pick [3, 2]⟩ ?_
  intro x28 ρ w os29 hI hf hbbs29
  obtain ⟨h27_2, h27_3, h27_5, hs⟩ := hI
  unfold esref32_Equal.l1 at hf
  refine W.seqK fun K30 hK30 => ?_
  refine W.seqK fun K31 hK31 => ?_
  refine W.region ?_
  refine WL.move (v := .int .i64 x28) h27_5 ?_
  refine WL.fieldAddr (m := 0) h27_2 FA29_0 rfl ?_
  refine WL.loadF (z := x1.Objects) F_fold_Store_Objects hs 1 rfl 1 rfl rfl TI27 (.inr rfl) rfl rfl (fun v32 hs => ?_)
  obtain ⟨a33, c34, rfl⟩ := hs.slice 0 rfl
  refine WL.len (v := .slice a33 (x1.Objects).length c34) rfl (len_slice UN27) ?_
  refine WL.bin (v := .bool (decide (x28 < ((x1.Objects).length : Int)))) rfl rfl (ib_lss _ _ _) ?_
  refine WL.nil ?_
  refine hK31 _ _ ?_
  rcases iteE hf with ⟨hc35, hf⟩ | ⟨hc35, hf⟩
  {
  refine W.cond_true (bool_tr rfl hc35) ?_
  refine W.skip ?_
  refine hK30 _ _ ?_
  refine W.seqK fun K36 hK36 => ?_
  refine W.block ?_
  refine W.seqK fun K37 hK37 => ?_
  obtain ⟨x41, hxx41, hf⟩ := bindE hf
  obtain ⟨x49, hxx49, hf⟩ := bindE hf
  obtain ⟨x54, hxx54, hf⟩ := bindE hf
  refine W.any (by kernel_rfl) 12 0 [true, true, true, true, true, true, true, true, true, true, true, true] rfl rfl (poAt [pv (.pointer (some ⟨g10, 0, none⟩)), pq (fun y : (Option Addr × Nat) => .slice y.1 (x1.Objects).length y.2) (fun v => [vl (tSlice t_fold_Object) x1.Objects v]) (fun v => []), pv (.int .i64 x28), pq (fun y : Addr => .pointer (some y)) (fun v => [pl t_fold_Object x41 (adOf v)]) (fun v => []), pq (fun y : List Value => .agg y.toArray) (fun v => [vl t_fold_Object x41 v]) (fun v => []), pv (.pointer (some ⟨g11, 0, none⟩)), pq (fun y : (Option Addr × Nat) => .slice y.1 (x5.Objects).length y.2) (fun v => [vl (tSlice t_fold_Object) x5.Objects v]) (fun v => []), pv (.int .i64 x28), pq (fun y : Addr => .pointer (some y)) (fun v => [pl t_fold_Object x49 (adOf v)]) (fun v => []), pq (fun y : List Value => .agg y.toArray) (fun v => [vl t_fold_Object x49 v]) (fun v => []), pv (.bool x54), pv (.bool (!x54))]) (Λ := [blk g11 29 cs7, blk g10 29 cs3]) hs (by kernel_rfl) (by kernel_rfl) (by kernel_rfl) ⟨⟨⟨⟨⟨⟨⟨⟨⟨⟨⟨⟨trivial, ?_⟩, ?_⟩, ?_⟩, ?_⟩, ?_⟩, ?_⟩, ?_⟩, ?_⟩, ?_⟩, ?_⟩, ?_⟩, ?_⟩ ?_
  {
  intro ρ w Γx Λx hs hu hp
  refine WL.fieldAddr (m := 0) ((hu 2 rfl).trans h27_2) FA29_0 rfl ?_
  exact WL.nil ⟨rfl, _, rfl, rfl, hs.cutG 0 0⟩ }
  {
  intro ρ w Γx Λx hs hu hp
  have e55 : ρ 20 = .pointer (some ⟨g10, 0, none⟩) := (hp 0 rfl).1
  refine WL.loadF (z := x1.Objects) F_fold_Store_Objects hs (Λx.length + 1) (getApp rfl) (Γx.length + 2) (getApp rfl) rfl TI27 (.inr rfl) e55 rfl (fun v38 hs => ?_)
  obtain ⟨a39, c40, rfl⟩ := hs.slice 0 rfl
  have hs := hs.add (it := vl (tSlice t_fold_Object) x1.Objects (.slice a39 (x1.Objects).length c40)) fun ok hA => hA.get 0 rfl
  exact WL.nil ⟨rfl, _, rfl, ⟨(a39, c40), rfl⟩, hs.cutG 1 1⟩ }
  {
  intro ρ w Γx Λx hs hu hp
  refine WL.move (v := .int .i64 x28) ((hu 5 rfl).trans h27_5) ?_
  exact WL.nil ⟨rfl, _, rfl, rfl, hs.cutG 0 0⟩ }
  {
  intro ρ w Γx Λx hs hu hp
  obtain ⟨⟨⟨a56, c57⟩, e58r⟩, hm59⟩ := hp 1 rfl
  have e58 : ρ 21 = .slice a56 (x1.Objects).length c57 := e58r
  rw [e58r] at hm59
  have hs := hs.memo1 (it := vl (tSlice t_fold_Object) x1.Objects (.slice a56 (x1.Objects).length c57)) (List.mem_append.2 (.inl (hm59 _ (List.mem_of_getElem? (i := 0) rfl))))
  have e60 : ρ 22 = .int .i64 x28 := (hp 2 rfl).1
  refine WL.indexAddr hs 0 rfl UN27 TI51 e58 e60 hxx41 (fun ad42 hs => ?_)
  have hs := hs.add (it := pl t_fold_Object x41 ad42) fun ok hA => hA.get 0 rfl
  exact WL.nil ⟨rfl, _, rfl, ⟨ad42, rfl⟩, hs.cutG 1 2⟩ }
  {
  intro ρ w Γx Λx hs hu hp
  obtain ⟨⟨ad61, e62r⟩, hm63⟩ := hp 3 rfl
  have e62 : ρ 23 = .pointer (some ad61) := e62r
  rw [e62r] at hm63
  have hs := hs.memo1 (it := pl t_fold_Object x41 ad61) (List.mem_append.2 (.inl (hm63 _ (List.mem_of_getElem? (i := 0) rfl))))
  refine WL.loadP hs 0 rfl TI51 (.inl rfl) e62 (fun v43 hs => ?_)
  obtain ⟨cs44, hl45, rfl⟩ := hs.aggv (n := 2) 0 rfl rfl rfl
  have hs := hs.add (it := vl t_fold_Object x41 (.agg cs44.toArray)) fun ok hA => hA.get 0 rfl
  exact WL.nil ⟨rfl, _, rfl, ⟨cs44, rfl⟩, hs.cutG 1 2⟩ }
  {
  intro ρ w Γx Λx hs hu hp
  refine WL.fieldAddr (m := 0) ((hu 3 rfl).trans h27_3) FA29_0 rfl ?_
  exact WL.nil ⟨rfl, _, rfl, rfl, hs.cutG 0 0⟩ }
  {
  intro ρ w Γx Λx hs hu hp
  have e64 : ρ 25 = .pointer (some ⟨g11, 0, none⟩) := (hp 5 rfl).1
  refine WL.loadF (z := x5.Objects) F_fold_Store_Objects hs (Λx.length + 0) (getApp rfl) (Γx.length + 1) (getApp rfl) rfl TI27 (.inr rfl) e64 rfl (fun v46 hs => ?_)
  obtain ⟨a47, c48, rfl⟩ := hs.slice 0 rfl
  have hs := hs.add (it := vl (tSlice t_fold_Object) x5.Objects (.slice a47 (x5.Objects).length c48)) fun ok hA => hA.get 0 rfl
  exact WL.nil ⟨rfl, _, rfl, ⟨(a47, c48), rfl⟩, hs.cutG 1 1⟩ }
  {
  intro ρ w Γx Λx hs hu hp
  refine WL.move (v := .int .i64 x28) ((hu 5 rfl).trans h27_5) ?_
  exact WL.nil ⟨rfl, _, rfl, rfl, hs.cutG 0 0⟩ }
  {
  intro ρ w Γx Λx hs hu hp
  obtain ⟨⟨⟨a65, c66⟩, e67r⟩, hm68⟩ := hp 6 rfl
  have e67 : ρ 26 = .slice a65 (x5.Objects).length c66 := e67r
  rw [e67r] at hm68
  have hs := hs.memo1 (it := vl (tSlice t_fold_Object) x5.Objects (.slice a65 (x5.Objects).length c66)) (List.mem_append.2 (.inl (hm68 _ (List.mem_of_getElem? (i := 0) rfl))))
  have e69 : ρ 27 = .int .i64 x28 := (hp 7 rfl).1
  refine WL.indexAddr hs 0 rfl UN27 TI51 e67 e69 hxx49 (fun ad50 hs => ?_)
  have hs := hs.add (it := pl t_fold_Object x49 ad50) fun ok hA => hA.get 0 rfl
  exact WL.nil ⟨rfl, _, rfl, ⟨ad50, rfl⟩, hs.cutG 1 2⟩ }
  {
  intro ρ w Γx Λx hs hu hp
  obtain ⟨⟨ad70, e71r⟩, hm72⟩ := hp 8 rfl
  have e71 : ρ 28 = .pointer (some ad70) := e71r
  rw [e71r] at hm72
  have hs := hs.memo1 (it := pl t_fold_Object x49 ad70) (List.mem_append.2 (.inl (hm72 _ (List.mem_of_getElem? (i := 0) rfl))))
  refine WL.loadP hs 0 rfl TI51 (.inl rfl) e71 (fun v51 hs => ?_)
  obtain ⟨cs52, hl53, rfl⟩ := hs.aggv (n := 2) 0 rfl rfl rfl
  have hs := hs.add (it := vl t_fold_Object x49 (.agg cs52.toArray)) fun ok hA => hA.get 0 rfl
  exact WL.nil ⟨rfl, _, rfl, ⟨cs52, rfl⟩, hs.cutG 1 2⟩ }
  {
  intro ρ w Γx Λx hs hu hp
  obtain ⟨⟨cs73, e75r⟩, hm76⟩ := hp 4 rfl
  have e75 : ρ 24 = .agg cs73.toArray := e75r
  rw [e75r] at hm76
  have hs := hs.memo1 (it := vl t_fold_Object x41 (.agg cs73.toArray)) (List.mem_append.2 (.inl (hm76 _ (List.mem_of_getElem? (i := 0) rfl))))
  have hl74 := hs.agglen (n := 2) 0 rfl rfl rfl
  obtain ⟨⟨cs77, e79r⟩, hm80⟩ := hp 9 rfl
  have e79 : ρ 29 = .agg cs77.toArray := e79r
  rw [e79r] at hm80
  have hs := hs.memo1 (it := vl t_fold_Object x49 (.agg cs77.toArray)) (List.mem_cons_of_mem _ (List.mem_append.2 (.inl (hm80 _ (List.mem_of_getElem? (i := 0) rfl)))))
  have hl78 := hs.agglen (n := 2) 0 rfl rfl rfl
  refine WL.call (vs := [.agg cs73.toArray, .agg cs77.toArray]) hs FN31 ⟨e75, ⟨e79, trivial⟩⟩ (fun ok hA => esref32_EqualObject.calls (x1 := x41) (x5 := x49) hxx54 (hA.get 1 rfl) (hA.get 0 rfl)) ?_
  rintro _ w hs
  exact WL.nil ⟨rfl, _, rfl, rfl, hs.cutG 0 2⟩ }
  {
  intro ρ w Γx Λx hs hu hp
  have e81 : ρ 30 = .bool x54 := (hp 10 rfl).1
  refine WL.not e81 ?_
  exact WL.nil ⟨rfl, _, rfl, rfl, hs.cutG 0 0⟩ }
  {
  intro ρ w hs hu82 hp
  obtain ⟨⟨⟨⟨⟨⟨⟨⟨⟨⟨⟨⟨_, hp0_⟩, hp1_⟩, hp2_⟩, hp3_⟩, hp4_⟩, hp5_⟩, hp6_⟩, hp7_⟩, hp8_⟩, hp9_⟩, hp10_⟩, hp11_⟩ := hp
  have hs : St ok (bz w0) w [vl t_fold_Object x49 (ρ 29), pl t_fold_Object x49 (adOf (ρ 28)), vl (tSlice t_fold_Object) x5.Objects (ρ 26), vl t_fold_Object x41 (ρ 24), pl t_fold_Object x41 (adOf (ρ 23)), vl (tSlice t_fold_Object) x1.Objects (ρ 21), vl (tSlice t_fold_Object) x1.Objects (.slice a33 (x1.Objects).length c34), vl t_fold_Store x5 (.agg cs7.toArray), vl t_fold_Store x1 (.agg cs3.toArray)] [blk g11 29 cs7, blk g10 29 cs3] := hs
  have e83 : ρ 31 = .bool (!x54) := hp11_
  have e84 : ρ 30 = .bool x54 := hp10_
  obtain ⟨cs85, e87⟩ := hp9_
  have e87 : ρ 29 = .agg cs85.toArray := e87
  try rw [e87] at hs
  obtain ⟨ad88, e89⟩ := hp8_
  have e89 : ρ 28 = .pointer (some ad88) := e89
  try rw [e89] at hs
  have e90 : ρ 27 = .int .i64 x28 := hp7_
  obtain ⟨⟨a91, c92⟩, e93⟩ := hp6_
  have e93 : ρ 26 = .slice a91 (x5.Objects).length c92 := e93
  try rw [e93] at hs
  have e94 : ρ 25 = .pointer (some ⟨g11, 0, none⟩) := hp5_
  obtain ⟨cs95, e97⟩ := hp4_
  have e97 : ρ 24 = .agg cs95.toArray := e97
  try rw [e97] at hs
  obtain ⟨ad98, e99⟩ := hp3_
  have e99 : ρ 23 = .pointer (some ad98) := e99
  try rw [e99] at hs
  have e100 : ρ 22 = .int .i64 x28 := hp2_
  obtain ⟨⟨a101, c102⟩, e103⟩ := hp1_
  have e103 : ρ 21 = .slice a101 (x1.Objects).length c102 := e103
  try rw [e103] at hs
  have e104 : ρ 20 = .pointer (some ⟨g10, 0, none⟩) := hp0_
  have hl96 := hs.agglen (n := 2) 3 rfl rfl rfl
  have hl86 := hs.agglen (n := 2) 0 rfl rfl rfl
  refine WA.done (by kernel_rfl) ?_
  refine hK37 _ _ ?_
  rcases iteE hf with ⟨hc105, hf⟩ | ⟨hc105, hf⟩
  {
  refine W.cond_true (bool_tr e83 hc105) ?_
  refine W.seqK fun K106 hK106 => ?_
  refine W.region ?_
  refine WL.assign (v := .bool false) rfl ?_
  refine WL.nil ?_
  refine hK106 _ _ ?_
  refine W.ret ?_
  have hr := Option.some.inj hf; subst hr
  have hr := hbbs29 _ rfl; subst hr
  have hf := hfs29
  have hr := Option.some.inj hf; subst hr
  exact ⟨_, resOk_one rfl rfl, (), rfl, (hs.mask []).pick []⟩ }
  {
  refine W.cond_false (bool_tr e83 hc105) ?_
  refine W.skip ?_
  refine hK36 _ _ ?_
  refine W.region ?_
  refine WL.move (v := .int .i64 x28) ((hu82 5 rfl).trans h27_5) ?_
  obtain ⟨x107, ex107, hf⟩ := letE hf
  refine WL.bin (v := .int .i64 x107) rfl rfl (ib_as ex107 (ib_add _ _ _)) ?_
  refine WL.assign (v := .int .i64 x107) rfl ?_
  refine WL.nil ?_
  exact ⟨_, (Option.some.inj hf).symm, ((hu82 2 rfl).trans h27_2), ((hu82 3 rfl).trans h27_3), rfl, (hs.mask [true, true]).pick [7, 8]⟩ } } }
  {
  refine W.cond_false (bool_tr rfl hc35) ?_
  refine W.exit ?_
  have hr := Option.some.inj hf; subst hr
  have hr := hbbs29 _ rfl; subst hr
  have hf := hfs29
  exact Jk24  _ _  ((hs.mask []).pick []) hf } }
end Go.Proofs.Ytlbcfjblpopcnaa
set_option linter.unusedVariables false
set_option linter.unusedSimpArgs false
namespace Go.Proofs.Ytlbcfjblpopcnaa
open Go Go.RowKit Go.Proofs.YtlbcfjblpopcnaaL
set_option maxRecDepth 100000
set_option maxHeartbeats 4000000
theorem esref06_Client.calls {ok : Nat → Prop} {w0 : World} {x1 : Int}  {r : Bool} (hf : esref06_Client x1 = some r)  :
    Calls Try.prog 46 #[.int .i64 x1] w0 fun e w' => ∃ v, e = .returned v ∧ ∃ y : Unit, v = .bool r ∧ St ok (bz w0) w' [] [] := by
  unfold esref06_Client at hf
  refine calls_of_W (fn := Try.f46) (N := 9) Try.func46 rfl Try.ntmps46 rfl ?_
  have hs : St ok (bz w0) w0 [] [] := St.init All.nil
  refine W.seqK fun K2 hK2 => ?_
  refine W.region ?_
  refine WL.assign (v := .bool false) rfl ?_
  refine WL.nil ?_
  refine hK2 _ _ ?_
  refine W.seqK fun K3 hK3 => ?_
  have Jk6 : ∀ (x5 : Bool) (ρ : Env) (w : World), ρ 2 = .bool x5 → St ok (bz w0) w [] [] → esref06_Client.j1 x5 = some r → K3 ρ w := by
    intro x5 ρ w h4_2 hs hf
    refine hK3 _ _ ?_
    unfold esref06_Client.j1 at hf
    refine W.ret ?_
    have hr := Option.some.inj hf; subst hr
    exact ⟨_, resOk_one rfl h4_2, (), rfl, (hs.mask []).pick []⟩
  refine W.region ?_
  refine WL.move (v := .int .i64 x1) rfl ?_
  refine WL.bin (v := .bool (decide (101 ≤ x1))) rfl rfl (ib_geq _ _ _) ?_
  refine WL.move (v := .bool (decide (101 ≤ x1))) rfl ?_
  rcases iteE hf with ⟨hc7, hf⟩ | ⟨hc7, hf⟩
  {
  refine WL.move (v := .int .i64 x1) rfl ?_ (hg := (wanted_of rfl rfl (bool_tr rfl hc7)).trans rfl)
  refine WL.bin (v := .bool (decide (x1 < 107))) rfl rfl (ib_lss _ _ _) ?_ (hg := (wanted_of rfl rfl (bool_tr rfl hc7)).trans rfl)
  refine WL.pickT (v := .bool (decide (x1 < 107))) (bool_tr rfl hc7) rfl ?_
  refine WL.assign (v := .bool (decide (x1 < 107))) rfl ?_
  refine WL.nil ?_
  exact Jk6 (decide (x1 < 107)) _ _ rfl ((hs.mask []).pick []) hf }
  {
  refine WL.pass ((wanted_of rfl rfl (bool_tr rfl hc7)).trans rfl) rfl ?_
  refine WL.pass ((wanted_of rfl rfl (bool_tr rfl hc7)).trans rfl) rfl ?_
  refine WL.pickF (v := .bool false) (bool_tr rfl hc7) rfl ?_
  refine WL.assign (v := .bool false) rfl ?_
  refine WL.nil ?_
  exact Jk6 false _ _ rfl ((hs.mask []).pick []) hf }
end Go.Proofs.Ytlbcfjblpopcnaa
set_option linter.unusedVariables false
set_option linter.unusedSimpArgs false
namespace Go.Proofs.Ytlbcfjblpopcnaa
open Go Go.RowKit Go.Proofs.YtlbcfjblpopcnaaL
set_option maxRecDepth 100000
set_option maxHeartbeats 4000000
theorem esref14_ValidateEffect.calls {ok : Nat → Prop} {w0 : World} {x1 : api_Effect} {v2 : Value} {r : Int} (hf : esref14_ValidateEffect x1 = some r) (i0 : (vl t_api_Effect x1 v2).holds ok w0) :
    Calls Try.prog 47 #[v2] w0 fun e w' => ∃ v, e = .returned v ∧ ∃ y : Unit, v = .int .i64 r ∧ St ok (bz w0) w' [] [] := by
  unfold esref14_ValidateEffect at hf
  refine calls_of_W (fn := Try.f47) (N := 85) Try.func47 rfl Try.ntmps47 rfl ?_
  have hs : St ok (bz w0) w0 [vl t_api_Effect x1 v2] [] := St.init (All.cons i0 All.nil)
  clear i0
  obtain ⟨cs3, hl4, rfl⟩ := hs.aggv (n := 5) 0 rfl rfl rfl
  refine W.seqK fun K5 hK5 => ?_
  refine W.region ?_
  refine WL.box (vs := cs3) hs rfl rfl (fun g6 w hs => ?_)
  refine WL.assign (v := .int .i64 0) rfl ?_
  refine WL.nil ?_
  refine hK5 _ _ ?_
  refine W.seqK fun K7 hK7 => ?_
  refine W.block ?_
  refine W.seqK fun K8 hK8 => ?_
  have Jk11 : ∀ (x10 : Bool) (ρ : Env) (w : World), ρ 1 = .pointer (some ⟨g6, 0, none⟩) → ρ 3 = .bool x10 → St ok (bz w0) w [vl t_api_Effect x1 (.agg cs3.toArray)] [blk g6 67 cs3] → esref14_ValidateEffect.j6 x1 x10 = some r → K8 ρ w := by
    intro x10 ρ w h9_1 h9_3 hs hf
    refine hK8 _ _ ?_
    unfold esref14_ValidateEffect.j6 at hf
    rcases iteE hf with ⟨hc12, hf⟩ | ⟨hc12, hf⟩
    {
    refine W.cond_true (bool_tr h9_3 hc12) ?_
    refine W.seqK fun K13 hK13 => ?_
    refine W.region ?_
    refine WL.assign (v := .int .i64 10) rfl ?_
    refine WL.nil ?_
    refine hK13 _ _ ?_
    refine W.ret ?_
    have hr := Option.some.inj hf; subst hr
    exact ⟨_, resOk_one rfl rfl, (), rfl, (hs.mask []).pick []⟩ }
    {
    refine W.cond_false (bool_tr h9_3 hc12) ?_
    refine W.seqK fun K14 hK14 => ?_
    have Jk17 : ∀ (x16 : Bool) (ρ : Env) (w : World), ρ 1 = .pointer (some ⟨g6, 0, none⟩) → ρ 12 = .bool x16 → St ok (bz w0) w [vl t_api_Effect x1 (.agg cs3.toArray)] [blk g6 67 cs3] → esref14_ValidateEffect.j5 x1 x16 = some r → K14 ρ w := by
      intro x16 ρ w h15_1 h15_12 hs hf
      refine hK14 _ _ ?_
      unfold esref14_ValidateEffect.j5 at hf
      rcases iteE hf with ⟨hc18, hf⟩ | ⟨hc18, hf⟩
      {
      refine W.cond_true (bool_tr h15_12 hc18) ?_
      refine W.seqK fun K19 hK19 => ?_
      refine W.region ?_
      refine WL.assign (v := .int .i64 2) rfl ?_
      refine WL.nil ?_
      refine hK19 _ _ ?_
      refine W.ret ?_
      have hr := Option.some.inj hf; subst hr
      exact ⟨_, resOk_one rfl rfl, (), rfl, (hs.mask []).pick []⟩ }
      {
      refine W.cond_false (bool_tr h15_12 hc18) ?_
      refine W.seqK fun K20 hK20 => ?_
      have Jk23 : ∀ (x22 : Bool) (ρ : Env) (w : World), ρ 1 = .pointer (some ⟨g6, 0, none⟩) → ρ 21 = .bool x22 → St ok (bz w0) w [vl t_api_Effect x1 (.agg cs3.toArray)] [blk g6 67 cs3] → esref14_ValidateEffect.j4 x1 x22 = some r → K20 ρ w := by
        intro x22 ρ w h21_1 h21_21 hs hf
        refine hK20 _ _ ?_
        unfold esref14_ValidateEffect.j4 at hf
        rcases iteE hf with ⟨hc24, hf⟩ | ⟨hc24, hf⟩
        {
        refine W.cond_true (bool_tr h21_21 hc24) ?_
        refine W.seqK fun K25 hK25 => ?_
        refine W.region ?_
        refine WL.assign (v := .int .i64 3) rfl ?_
        refine WL.nil ?_
        refine hK25 _ _ ?_
        refine W.ret ?_
        have hr := Option.some.inj hf; subst hr
        exact ⟨_, resOk_one rfl rfl, (), rfl, (hs.mask []).pick []⟩ }
        {
        refine W.cond_false (bool_tr h21_21 hc24) ?_
        refine W.seqK fun K26 hK26 => ?_
        have Jk29 : ∀ (x28 : Bool) (ρ : Env) (w : World), ρ 1 = .pointer (some ⟨g6, 0, none⟩) → ρ 38 = .bool x28 → St ok (bz w0) w [vl t_api_Effect x1 (.agg cs3.toArray)] [blk g6 67 cs3] → esref14_ValidateEffect.j3 x1 x28 = some r → K26 ρ w := by
          intro x28 ρ w h27_1 h27_38 hs hf
          refine hK26 _ _ ?_
          unfold esref14_ValidateEffect.j3 at hf
          rcases iteE hf with ⟨hc30, hf⟩ | ⟨hc30, hf⟩
          {
          refine W.cond_true (bool_tr h27_38 hc30) ?_
          refine W.seqK fun K31 hK31 => ?_
          refine W.region ?_
          refine WL.assign (v := .int .i64 9) rfl ?_
          refine WL.nil ?_
          refine hK31 _ _ ?_
          refine W.ret ?_
          have hr := Option.some.inj hf; subst hr
          exact ⟨_, resOk_one rfl rfl, (), rfl, (hs.mask []).pick []⟩ }
          {
          refine W.cond_false (bool_tr h27_38 hc30) ?_
          refine W.seqK fun K32 hK32 => ?_
          have Jk35 : ∀ (x34 : Bool) (ρ : Env) (w : World), ρ 1 = .pointer (some ⟨g6, 0, none⟩) → ρ 52 = .bool x34 → St ok (bz w0) w [vl t_api_Effect x1 (.agg cs3.toArray)] [blk g6 67 cs3] → esref14_ValidateEffect.j2 x1 x34 = some r → K32 ρ w := by
            intro x34 ρ w h33_1 h33_52 hs hf
            refine hK32 _ _ ?_
            unfold esref14_ValidateEffect.j2 at hf
            rcases iteE hf with ⟨hc36, hf⟩ | ⟨hc36, hf⟩
            {
            refine W.cond_true (bool_tr h33_52 hc36) ?_
            refine W.seqK fun K37 hK37 => ?_
            refine W.region ?_
            refine WL.assign (v := .int .i64 9) rfl ?_
            refine WL.nil ?_
            refine hK37 _ _ ?_
            refine W.ret ?_
            have hr := Option.some.inj hf; subst hr
            exact ⟨_, resOk_one rfl rfl, (), rfl, (hs.mask []).pick []⟩ }
            {
            refine W.cond_false (bool_tr h33_52 hc36) ?_
            refine W.seqK fun K38 hK38 => ?_
            have Jk41 : ∀ (x40 : Bool) (ρ : Env) (w : World), ρ 66 = .bool x40 → St ok (bz w0) w [] [] → esref14_ValidateEffect.j1 x40 = some r → K38 ρ w := by
              intro x40 ρ w h39_66 hs hf
              refine hK38 _ _ ?_
              unfold esref14_ValidateEffect.j1 at hf
              rcases iteE hf with ⟨hc42, hf⟩ | ⟨hc42, hf⟩
              {
              refine W.cond_true (bool_tr h39_66 hc42) ?_
              refine W.seqK fun K43 hK43 => ?_
              refine W.region ?_
              refine WL.assign (v := .int .i64 2) rfl ?_
              refine WL.nil ?_
              refine hK43 _ _ ?_
              refine W.ret ?_
              have hr := Option.some.inj hf; subst hr
              exact ⟨_, resOk_one rfl rfl, (), rfl, (hs.mask []).pick []⟩ }
              {
              refine W.cond_false (bool_tr h39_66 hc42) ?_
              refine W.skip ?_
              refine hK7 _ _ ?_
              refine W.seqK fun K44 hK44 => ?_
              refine W.region ?_
              refine WL.assign (v := .int .i64 0) rfl ?_
              refine WL.nil ?_
              refine hK44 _ _ ?_
              refine W.ret ?_
              have hr := Option.some.inj hf; subst hr
              exact ⟨_, resOk_one rfl rfl, (), rfl, (hs.mask []).pick []⟩ }
            refine W.region ?_
            refine WL.fieldAddr (m := 0) h33_1 FA67_0 rfl ?_
            refine WL.loadF (z := x1.Kind) F_api_Effect_Kind hs 0 rfl 0 rfl rfl TI3 (.inr rfl) rfl rfl (fun v45 hs => ?_)
            obtain rfl := hs.int 0 rfl
            refine WL.bin (v := .bool (x1.Kind == 2)) rfl rfl (ib_eql _ _ _) ?_
            refine WL.move (v := .bool (x1.Kind == 2)) rfl ?_
            rcases iteE hf with ⟨hc46, hf⟩ | ⟨hc46, hf⟩
            {
            refine WL.pass ((wanted_of rfl rfl (bool_tr rfl hc46)).trans rfl) rfl ?_
            refine WL.pass ((wanted_of rfl rfl (bool_tr rfl hc46)).trans rfl) rfl ?_
            refine WL.pass ((wanted_of rfl rfl (bool_tr rfl hc46)).trans rfl) rfl ?_
            refine WL.pickT (v := .bool true) (bool_tr rfl hc46) rfl ?_
            refine WL.move (v := .bool true) rfl ?_
            refine WL.pass ((wanted_of rfl rfl rfl).trans rfl) rfl ?_
            refine WL.pass ((wanted_of rfl rfl rfl).trans rfl) rfl ?_
            refine WL.pass ((wanted_of rfl rfl rfl).trans rfl) rfl ?_
            refine WL.pickT (v := .bool true) rfl rfl ?_
            refine WL.move (v := .bool true) rfl ?_
            refine WL.fieldAddr (m := 4) h33_1 FA67_4 rfl ?_ (hg := (wanted_of rfl rfl rfl).trans rfl)
            refine WL.loadF (z := x1.S) F_api_Effect_S hs 0 rfl 1 rfl rfl TI9 (.inr rfl) rfl rfl (fun v47 hs => ?_) (hg := (wanted_of rfl rfl rfl).trans rfl)
            obtain rfl := hs.str 0 rfl
            refine WL.binS (v := .bool (x1.S != ([] : List UInt8))) rfl rfl (sb_neq _ _) ?_ (hg := (wanted_of rfl rfl rfl).trans rfl)
            refine WL.pickT (v := .bool (x1.S != ([] : List UInt8))) rfl rfl ?_
            refine WL.assign (v := .bool (x1.S != ([] : List UInt8))) rfl ?_
            refine WL.nil ?_
            exact Jk41 (x1.S != ([] : List UInt8)) _ _ rfl ((hs.mask []).pick []) hf }
            {
            refine WL.fieldAddr (m := 0) h33_1 FA67_0 rfl ?_ (hg := (wanted_of rfl rfl (bool_tr rfl hc46)).trans rfl)
            refine WL.loadF (z := x1.Kind) F_api_Effect_Kind hs 0 rfl 1 rfl rfl TI3 (.inr rfl) rfl rfl (fun v48 hs => ?_) (hg := (wanted_of rfl rfl (bool_tr rfl hc46)).trans rfl)
            obtain rfl := hs.int 0 rfl
            refine WL.bin (v := .bool (x1.Kind == 3)) rfl rfl (ib_eql _ _ _) ?_ (hg := (wanted_of rfl rfl (bool_tr rfl hc46)).trans rfl)
            refine WL.pickF (v := .bool (x1.Kind == 3)) (bool_tr rfl hc46) rfl ?_
            refine WL.move (v := .bool (x1.Kind == 3)) rfl ?_
            rcases iteE hf with ⟨hc49, hf⟩ | ⟨hc49, hf⟩
            {
            refine WL.pass ((wanted_of rfl rfl (bool_tr rfl hc49)).trans rfl) rfl ?_
            refine WL.pass ((wanted_of rfl rfl (bool_tr rfl hc49)).trans rfl) rfl ?_
            refine WL.pass ((wanted_of rfl rfl (bool_tr rfl hc49)).trans rfl) rfl ?_
            refine WL.pickT (v := .bool true) (bool_tr rfl hc49) rfl ?_
            refine WL.move (v := .bool true) rfl ?_
            refine WL.fieldAddr (m := 4) h33_1 FA67_4 rfl ?_ (hg := (wanted_of rfl rfl rfl).trans rfl)
            refine WL.loadF (z := x1.S) F_api_Effect_S hs 0 rfl 2 rfl rfl TI9 (.inr rfl) rfl rfl (fun v50 hs => ?_) (hg := (wanted_of rfl rfl rfl).trans rfl)
            obtain rfl := hs.str 0 rfl
            refine WL.binS (v := .bool (x1.S != ([] : List UInt8))) rfl rfl (sb_neq _ _) ?_ (hg := (wanted_of rfl rfl rfl).trans rfl)
            refine WL.pickT (v := .bool (x1.S != ([] : List UInt8))) rfl rfl ?_
            refine WL.assign (v := .bool (x1.S != ([] : List UInt8))) rfl ?_
            refine WL.nil ?_
            exact Jk41 (x1.S != ([] : List UInt8)) _ _ rfl ((hs.mask []).pick []) hf }
            {
            refine WL.fieldAddr (m := 0) h33_1 FA67_0 rfl ?_ (hg := (wanted_of rfl rfl (bool_tr rfl hc49)).trans rfl)
            refine WL.loadF (z := x1.Kind) F_api_Effect_Kind hs 0 rfl 2 rfl rfl TI3 (.inr rfl) rfl rfl (fun v51 hs => ?_) (hg := (wanted_of rfl rfl (bool_tr rfl hc49)).trans rfl)
            obtain rfl := hs.int 0 rfl
            refine WL.bin (v := .bool (x1.Kind == 5)) rfl rfl (ib_eql _ _ _) ?_ (hg := (wanted_of rfl rfl (bool_tr rfl hc49)).trans rfl)
            refine WL.pickF (v := .bool (x1.Kind == 5)) (bool_tr rfl hc49) rfl ?_
            refine WL.move (v := .bool (x1.Kind == 5)) rfl ?_
            rcases iteE hf with ⟨hc52, hf⟩ | ⟨hc52, hf⟩
            {
            refine WL.fieldAddr (m := 4) h33_1 FA67_4 rfl ?_ (hg := (wanted_of rfl rfl (bool_tr rfl hc52)).trans rfl)
            refine WL.loadF (z := x1.S) F_api_Effect_S hs 0 rfl 3 rfl rfl TI9 (.inr rfl) rfl rfl (fun v53 hs => ?_) (hg := (wanted_of rfl rfl (bool_tr rfl hc52)).trans rfl)
            obtain rfl := hs.str 0 rfl
            refine WL.binS (v := .bool (x1.S != ([] : List UInt8))) rfl rfl (sb_neq _ _) ?_ (hg := (wanted_of rfl rfl (bool_tr rfl hc52)).trans rfl)
            refine WL.pickT (v := .bool (x1.S != ([] : List UInt8))) (bool_tr rfl hc52) rfl ?_
            refine WL.assign (v := .bool (x1.S != ([] : List UInt8))) rfl ?_
            refine WL.nil ?_
            exact Jk41 (x1.S != ([] : List UInt8)) _ _ rfl ((hs.mask []).pick []) hf }
            {
            refine WL.pass ((wanted_of rfl rfl (bool_tr rfl hc52)).trans rfl) rfl ?_
            refine WL.pass ((wanted_of rfl rfl (bool_tr rfl hc52)).trans rfl) rfl ?_
            refine WL.pass ((wanted_of rfl rfl (bool_tr rfl hc52)).trans rfl) rfl ?_
            refine WL.pickF (v := .bool false) (bool_tr rfl hc52) rfl ?_
            refine WL.assign (v := .bool false) rfl ?_
            refine WL.nil ?_
            exact Jk41 false _ _ rfl ((hs.mask []).pick []) hf } } } }
          refine W.region ?_
          refine WL.fieldAddr (m := 0) h27_1 FA67_0 rfl ?_
          refine WL.loadF (z := x1.Kind) F_api_Effect_Kind hs 0 rfl 0 rfl rfl TI3 (.inr rfl) rfl rfl (fun v54 hs => ?_)
          obtain rfl := hs.int 0 rfl
          refine WL.bin (v := .bool (x1.Kind == 4)) rfl rfl (ib_eql _ _ _) ?_
          refine WL.move (v := .bool (x1.Kind == 4)) rfl ?_
          rcases iteE hf with ⟨hc55, hf⟩ | ⟨hc55, hf⟩
          {
          refine WL.pass ((wanted_of rfl rfl (bool_tr rfl hc55)).trans rfl) rfl ?_
          refine WL.pass ((wanted_of rfl rfl (bool_tr rfl hc55)).trans rfl) rfl ?_
          refine WL.pass ((wanted_of rfl rfl (bool_tr rfl hc55)).trans rfl) rfl ?_
          refine WL.pickT (v := .bool true) (bool_tr rfl hc55) rfl ?_
          refine WL.move (v := .bool true) rfl ?_
          refine WL.fieldAddr (m := 3) h27_1 FA67_3 rfl ?_ (hg := (wanted_of rfl rfl rfl).trans rfl)
          refine WL.loadF (z := x1.N) F_api_Effect_N hs 0 rfl 1 rfl rfl TI2 (.inr rfl) rfl rfl (fun v56 hs => ?_) (hg := (wanted_of rfl rfl rfl).trans rfl)
          obtain rfl := hs.int 0 rfl
          refine WL.bin (v := .bool (x1.N != 0)) rfl rfl (ib_neq _ _ _) ?_ (hg := (wanted_of rfl rfl rfl).trans rfl)
          refine WL.pickT (v := .bool (x1.N != 0)) rfl rfl ?_
          refine WL.assign (v := .bool (x1.N != 0)) rfl ?_
          refine WL.nil ?_
          exact Jk35 (x1.N != 0) _ _ h27_1 rfl ((hs.mask [true]).pick [2]) hf }
          {
          refine WL.fieldAddr (m := 0) h27_1 FA67_0 rfl ?_ (hg := (wanted_of rfl rfl (bool_tr rfl hc55)).trans rfl)
          refine WL.loadF (z := x1.Kind) F_api_Effect_Kind hs 0 rfl 1 rfl rfl TI3 (.inr rfl) rfl rfl (fun v57 hs => ?_) (hg := (wanted_of rfl rfl (bool_tr rfl hc55)).trans rfl)
          obtain rfl := hs.int 0 rfl
          refine WL.bin (v := .bool (x1.Kind == 5)) rfl rfl (ib_eql _ _ _) ?_ (hg := (wanted_of rfl rfl (bool_tr rfl hc55)).trans rfl)
          refine WL.pickF (v := .bool (x1.Kind == 5)) (bool_tr rfl hc55) rfl ?_
          refine WL.move (v := .bool (x1.Kind == 5)) rfl ?_
          rcases iteE hf with ⟨hc58, hf⟩ | ⟨hc58, hf⟩
          {
          refine WL.fieldAddr (m := 3) h27_1 FA67_3 rfl ?_ (hg := (wanted_of rfl rfl (bool_tr rfl hc58)).trans rfl)
          refine WL.loadF (z := x1.N) F_api_Effect_N hs 0 rfl 2 rfl rfl TI2 (.inr rfl) rfl rfl (fun v59 hs => ?_) (hg := (wanted_of rfl rfl (bool_tr rfl hc58)).trans rfl)
          obtain rfl := hs.int 0 rfl
          refine WL.bin (v := .bool (x1.N != 0)) rfl rfl (ib_neq _ _ _) ?_ (hg := (wanted_of rfl rfl (bool_tr rfl hc58)).trans rfl)
          refine WL.pickT (v := .bool (x1.N != 0)) (bool_tr rfl hc58) rfl ?_
          refine WL.assign (v := .bool (x1.N != 0)) rfl ?_
          refine WL.nil ?_
          exact Jk35 (x1.N != 0) _ _ h27_1 rfl ((hs.mask [true]).pick [3]) hf }
          {
          refine WL.pass ((wanted_of rfl rfl (bool_tr rfl hc58)).trans rfl) rfl ?_
          refine WL.pass ((wanted_of rfl rfl (bool_tr rfl hc58)).trans rfl) rfl ?_
          refine WL.pass ((wanted_of rfl rfl (bool_tr rfl hc58)).trans rfl) rfl ?_
          refine WL.pickF (v := .bool false) (bool_tr rfl hc58) rfl ?_
          refine WL.assign (v := .bool false) rfl ?_
          refine WL.nil ?_
          exact Jk35 false _ _ h27_1 rfl ((hs.mask [true]).pick [2]) hf } } }
        refine W.region ?_
        refine WL.fieldAddr (m := 0) h21_1 FA67_0 rfl ?_
        refine WL.loadF (z := x1.Kind) F_api_Effect_Kind hs 0 rfl 0 rfl rfl TI3 (.inr rfl) rfl rfl (fun v60 hs => ?_)
        obtain rfl := hs.int 0 rfl
        refine WL.bin (v := .bool (x1.Kind == 3)) rfl rfl (ib_eql _ _ _) ?_
        refine WL.move (v := .bool (x1.Kind == 3)) rfl ?_
        rcases iteE hf with ⟨hc61, hf⟩ | ⟨hc61, hf⟩
        {
        refine WL.fieldAddr (m := 3) h21_1 FA67_3 rfl ?_ (hg := (wanted_of rfl rfl (bool_tr rfl hc61)).trans rfl)
        refine WL.loadF (z := x1.N) F_api_Effect_N hs 0 rfl 1 rfl rfl TI2 (.inr rfl) rfl rfl (fun v62 hs => ?_) (hg := (wanted_of rfl rfl (bool_tr rfl hc61)).trans rfl)
        obtain rfl := hs.int 0 rfl
        refine WL.bin (v := .bool (decide (x1.N < (-1000000)))) rfl rfl (ib_lss _ _ _) ?_ (hg := (wanted_of rfl rfl (bool_tr rfl hc61)).trans rfl)
        refine WL.move (v := .bool (decide (x1.N < (-1000000)))) rfl ?_ (hg := (wanted_of rfl rfl (bool_tr rfl hc61)).trans rfl)
        rcases iteE hf with ⟨hc63, hf⟩ | ⟨hc63, hf⟩
        {
        refine WL.pass ((wanted_of rfl rfl (bool_tr rfl hc63)).trans rfl) rfl ?_
        refine WL.pass ((wanted_of rfl rfl (bool_tr rfl hc63)).trans rfl) rfl ?_
        refine WL.pass ((wanted_of rfl rfl (bool_tr rfl hc63)).trans rfl) rfl ?_
        refine WL.pickT (v := .bool true) (bool_tr rfl hc63) rfl ?_ (hg := (wanted_of rfl rfl (bool_tr rfl hc61)).trans rfl)
        refine WL.pickT (v := .bool true) (bool_tr rfl hc61) rfl ?_
        refine WL.assign (v := .bool true) rfl ?_
        refine WL.nil ?_
        exact Jk29 true _ _ h21_1 rfl ((hs.mask [true]).pick [2]) hf }
        {
        refine WL.fieldAddr (m := 3) h21_1 FA67_3 rfl ?_ (hg := (wanted_of rfl rfl (bool_tr rfl hc63)).trans rfl)
        refine WL.loadF (z := x1.N) F_api_Effect_N hs 0 rfl 2 rfl rfl TI2 (.inr rfl) rfl rfl (fun v64 hs => ?_) (hg := (wanted_of rfl rfl (bool_tr rfl hc63)).trans rfl)
        obtain rfl := hs.int 0 rfl
        refine WL.bin (v := .bool (decide (1000000 < x1.N))) rfl rfl (ib_gtr _ _ _) ?_ (hg := (wanted_of rfl rfl (bool_tr rfl hc63)).trans rfl)
        refine WL.pickF (v := .bool (decide (1000000 < x1.N))) (bool_tr rfl hc63) rfl ?_ (hg := (wanted_of rfl rfl (bool_tr rfl hc61)).trans rfl)
        refine WL.pickT (v := .bool (decide (1000000 < x1.N))) (bool_tr rfl hc61) rfl ?_
        refine WL.assign (v := .bool (decide (1000000 < x1.N))) rfl ?_
        refine WL.nil ?_
        exact Jk29 (decide (1000000 < x1.N)) _ _ h21_1 rfl ((hs.mask [true]).pick [3]) hf } }
        {
        refine WL.pass ((wanted_of rfl rfl (bool_tr rfl hc61)).trans rfl) rfl ?_
        refine WL.pass ((wanted_of rfl rfl (bool_tr rfl hc61)).trans rfl) rfl ?_
        refine WL.pass ((wanted_of rfl rfl (bool_tr rfl hc61)).trans rfl) rfl ?_
        refine WL.pass ((wanted_of rfl rfl (bool_tr rfl hc61)).trans rfl) rfl ?_
        refine WL.pass (wanted_undef rfl rfl rfl) rfl ?_
        refine WL.pass (wanted_undef rfl rfl rfl) rfl ?_
        refine WL.pass (wanted_undef rfl rfl rfl) rfl ?_
        refine WL.pass ((wanted_of rfl rfl (bool_tr rfl hc61)).trans rfl) rfl ?_
        refine WL.pickF (v := .bool false) (bool_tr rfl hc61) rfl ?_
        refine WL.assign (v := .bool false) rfl ?_
        refine WL.nil ?_
        exact Jk29 false _ _ h21_1 rfl ((hs.mask [true]).pick [1]) hf } }
      refine W.region ?_
      refine WL.fieldAddr (m := 1) h15_1 FA67_1 rfl ?_
      refine WL.loadF (z := x1.Object) F_api_Effect_Object hs 0 rfl 0 rfl rfl TI9 (.inr rfl) rfl rfl (fun v65 hs => ?_)
      obtain rfl := hs.str 0 rfl
      refine WL.len (v := bstr x1.Object) rfl (len_string UN9) ?_
      refine WL.bin (v := .bool (decide (16 < ((x1.Object).length : Int)))) rfl rfl (ib_gtr _ _ _) ?_
      refine WL.move (v := .bool (decide (16 < ((x1.Object).length : Int)))) rfl ?_
      rcases iteE hf with ⟨hc66, hf⟩ | ⟨hc66, hf⟩
      {
      refine WL.pass ((wanted_of rfl rfl (bool_tr rfl hc66)).trans rfl) rfl ?_
      refine WL.pass ((wanted_of rfl rfl (bool_tr rfl hc66)).trans rfl) rfl ?_
      refine WL.pass ((wanted_of rfl rfl (bool_tr rfl hc66)).trans rfl) rfl ?_
      refine WL.pass ((wanted_of rfl rfl (bool_tr rfl hc66)).trans rfl) rfl ?_
      refine WL.pickT (v := .bool true) (bool_tr rfl hc66) rfl ?_
      refine WL.move (v := .bool true) rfl ?_
      refine WL.pass ((wanted_of rfl rfl rfl).trans rfl) rfl ?_
      refine WL.pass ((wanted_of rfl rfl rfl).trans rfl) rfl ?_
      refine WL.pass ((wanted_of rfl rfl rfl).trans rfl) rfl ?_
      refine WL.pass ((wanted_of rfl rfl rfl).trans rfl) rfl ?_
      refine WL.pickT (v := .bool true) rfl rfl ?_
      refine WL.assign (v := .bool true) rfl ?_
      refine WL.nil ?_
      exact Jk23 true _ _ h15_1 rfl ((hs.mask [true]).pick [1]) hf }
      {
      refine WL.fieldAddr (m := 2) h15_1 FA67_2 rfl ?_ (hg := (wanted_of rfl rfl (bool_tr rfl hc66)).trans rfl)
      refine WL.loadF (z := x1.Field) F_api_Effect_Field hs 0 rfl 1 rfl rfl TI9 (.inr rfl) rfl rfl (fun v67 hs => ?_) (hg := (wanted_of rfl rfl (bool_tr rfl hc66)).trans rfl)
      obtain rfl := hs.str 0 rfl
      refine WL.len (v := bstr x1.Field) rfl (len_string UN9) ?_ (hg := (wanted_of rfl rfl (bool_tr rfl hc66)).trans rfl)
      refine WL.bin (v := .bool (decide (16 < ((x1.Field).length : Int)))) rfl rfl (ib_gtr _ _ _) ?_ (hg := (wanted_of rfl rfl (bool_tr rfl hc66)).trans rfl)
      refine WL.pickF (v := .bool (decide (16 < ((x1.Field).length : Int)))) (bool_tr rfl hc66) rfl ?_
      refine WL.move (v := .bool (decide (16 < ((x1.Field).length : Int)))) rfl ?_
      rcases iteE hf with ⟨hc68, hf⟩ | ⟨hc68, hf⟩
      {
      refine WL.pass ((wanted_of rfl rfl (bool_tr rfl hc68)).trans rfl) rfl ?_
      refine WL.pass ((wanted_of rfl rfl (bool_tr rfl hc68)).trans rfl) rfl ?_
      refine WL.pass ((wanted_of rfl rfl (bool_tr rfl hc68)).trans rfl) rfl ?_
      refine WL.pass ((wanted_of rfl rfl (bool_tr rfl hc68)).trans rfl) rfl ?_
      refine WL.pickT (v := .bool true) (bool_tr rfl hc68) rfl ?_
      refine WL.assign (v := .bool true) rfl ?_
      refine WL.nil ?_
      exact Jk23 true _ _ h15_1 rfl ((hs.mask [true]).pick [2]) hf }
      {
      refine WL.fieldAddr (m := 4) h15_1 FA67_4 rfl ?_ (hg := (wanted_of rfl rfl (bool_tr rfl hc68)).trans rfl)
      refine WL.loadF (z := x1.S) F_api_Effect_S hs 0 rfl 2 rfl rfl TI9 (.inr rfl) rfl rfl (fun v69 hs => ?_) (hg := (wanted_of rfl rfl (bool_tr rfl hc68)).trans rfl)
      obtain rfl := hs.str 0 rfl
      refine WL.len (v := bstr x1.S) rfl (len_string UN9) ?_ (hg := (wanted_of rfl rfl (bool_tr rfl hc68)).trans rfl)
      refine WL.bin (v := .bool (decide (32 < ((x1.S).length : Int)))) rfl rfl (ib_gtr _ _ _) ?_ (hg := (wanted_of rfl rfl (bool_tr rfl hc68)).trans rfl)
      refine WL.pickF (v := .bool (decide (32 < ((x1.S).length : Int)))) (bool_tr rfl hc68) rfl ?_
      refine WL.assign (v := .bool (decide (32 < ((x1.S).length : Int)))) rfl ?_
      refine WL.nil ?_
      exact Jk23 (decide (32 < ((x1.S).length : Int))) _ _ h15_1 rfl ((hs.mask [true]).pick [3]) hf } } }
    refine W.region ?_
    refine WL.fieldAddr (m := 1) h9_1 FA67_1 rfl ?_
    refine WL.loadF (z := x1.Object) F_api_Effect_Object hs 0 rfl 0 rfl rfl TI9 (.inr rfl) rfl rfl (fun v70 hs => ?_)
    obtain rfl := hs.str 0 rfl
    refine WL.binS (v := .bool (x1.Object == ([] : List UInt8))) rfl rfl (sb_eql _ _) ?_
    refine WL.move (v := .bool (x1.Object == ([] : List UInt8))) rfl ?_
    rcases iteE hf with ⟨hc71, hf⟩ | ⟨hc71, hf⟩
    {
    refine WL.pass ((wanted_of rfl rfl (bool_tr rfl hc71)).trans rfl) rfl ?_
    refine WL.pass ((wanted_of rfl rfl (bool_tr rfl hc71)).trans rfl) rfl ?_
    refine WL.pass ((wanted_of rfl rfl (bool_tr rfl hc71)).trans rfl) rfl ?_
    refine WL.pickT (v := .bool true) (bool_tr rfl hc71) rfl ?_
    refine WL.assign (v := .bool true) rfl ?_
    refine WL.nil ?_
    exact Jk17 true _ _ h9_1 rfl ((hs.mask [true]).pick [1]) hf }
    {
    refine WL.fieldAddr (m := 2) h9_1 FA67_2 rfl ?_ (hg := (wanted_of rfl rfl (bool_tr rfl hc71)).trans rfl)
    refine WL.loadF (z := x1.Field) F_api_Effect_Field hs 0 rfl 1 rfl rfl TI9 (.inr rfl) rfl rfl (fun v72 hs => ?_) (hg := (wanted_of rfl rfl (bool_tr rfl hc71)).trans rfl)
    obtain rfl := hs.str 0 rfl
    refine WL.binS (v := .bool (x1.Field == ([] : List UInt8))) rfl rfl (sb_eql _ _) ?_ (hg := (wanted_of rfl rfl (bool_tr rfl hc71)).trans rfl)
    refine WL.pickF (v := .bool (x1.Field == ([] : List UInt8))) (bool_tr rfl hc71) rfl ?_
    refine WL.assign (v := .bool (x1.Field == ([] : List UInt8))) rfl ?_
    refine WL.nil ?_
    exact Jk17 (x1.Field == ([] : List UInt8)) _ _ h9_1 rfl ((hs.mask [true]).pick [2]) hf } }
  refine W.region ?_
  refine WL.fieldAddr (m := 0) rfl FA67_0 rfl ?_
  refine WL.loadF (z := x1.Kind) F_api_Effect_Kind hs 0 rfl 0 rfl rfl TI3 (.inr rfl) rfl rfl (fun v73 hs => ?_)
  obtain rfl := hs.int 0 rfl
  refine WL.bin (v := .bool (decide (x1.Kind < 1))) rfl rfl (ib_lss _ _ _) ?_
  refine WL.move (v := .bool (decide (x1.Kind < 1))) rfl ?_
  rcases iteE hf with ⟨hc74, hf⟩ | ⟨hc74, hf⟩
  {
  refine WL.pass ((wanted_of rfl rfl (bool_tr rfl hc74)).trans rfl) rfl ?_
  refine WL.pass ((wanted_of rfl rfl (bool_tr rfl hc74)).trans rfl) rfl ?_
  refine WL.pass ((wanted_of rfl rfl (bool_tr rfl hc74)).trans rfl) rfl ?_
  refine WL.pickT (v := .bool true) (bool_tr rfl hc74) rfl ?_
  refine WL.assign (v := .bool true) rfl ?_
  refine WL.nil ?_
  exact Jk11 true _ _ rfl rfl ((hs.mask [true]).pick [1]) hf }
  {
  refine WL.fieldAddr (m := 0) rfl FA67_0 rfl ?_ (hg := (wanted_of rfl rfl (bool_tr rfl hc74)).trans rfl)
  refine WL.loadF (z := x1.Kind) F_api_Effect_Kind hs 0 rfl 1 rfl rfl TI3 (.inr rfl) rfl rfl (fun v75 hs => ?_) (hg := (wanted_of rfl rfl (bool_tr rfl hc74)).trans rfl)
  obtain rfl := hs.int 0 rfl
  refine WL.bin (v := .bool (decide (5 < x1.Kind))) rfl rfl (ib_gtr _ _ _) ?_ (hg := (wanted_of rfl rfl (bool_tr rfl hc74)).trans rfl)
  refine WL.pickF (v := .bool (decide (5 < x1.Kind))) (bool_tr rfl hc74) rfl ?_
  refine WL.assign (v := .bool (decide (5 < x1.Kind))) rfl ?_
  refine WL.nil ?_
  exact Jk11 (decide (5 < x1.Kind)) _ _ rfl rfl ((hs.mask [true]).pick [2]) hf }
theorem esref14_Commutes.calls {ok : Nat → Prop} {w0 : World} {x1 : api_Update} {v2 : Value} {r : Bool} (hf : esref14_Commutes x1 = some r) (i0 : (vl t_api_Update x1 v2).holds ok w0) :
    Calls Try.prog 48 #[v2] w0 fun e w' => ∃ v, e = .returned v ∧ ∃ y : Unit, v = .bool r ∧ St ok (bz w0) w' [] [] := by
  unfold esref14_Commutes at hf
  refine calls_of_W (fn := Try.f48) (N := 18) Try.func48 rfl Try.ntmps48 rfl ?_
  have hs : St ok (bz w0) w0 [vl t_api_Update x1 v2] [] := St.init (All.cons i0 All.nil)
  clear i0
  obtain ⟨cs3, hl4, rfl⟩ := hs.aggv (n := 4) 0 rfl rfl rfl
  refine W.seqK fun K5 hK5 => ?_
  refine W.region ?_
  refine WL.box (vs := cs3) hs rfl rfl (fun g6 w hs => ?_)
  refine WL.assign (v := .bool false) rfl ?_
  refine WL.nil ?_
  refine hK5 _ _ ?_
  refine W.seqK fun K7 hK7 => ?_
  have Jk9 : ∀  (ρ : Env) (w : World), St ok (bz w0) w [] [] → esref14_Commutes.j1 = some r → K7 ρ w := by
    intro  ρ w  hs hf
    refine hK7 _ _ ?_
    unfold esref14_Commutes.j1 at hf
    refine W.seqK fun K10 hK10 => ?_
    refine W.region ?_
    refine WL.assign (v := .bool true) rfl ?_
    refine WL.nil ?_
    refine hK10 _ _ ?_
    refine W.ret ?_
    have hr := Option.some.inj hf; subst hr
    exact ⟨_, resOk_one rfl rfl, (), rfl, (hs.mask []).pick []⟩
  refine W.seqK fun K11 hK11 => ?_
  refine W.region ?_
  refine WL.assign (v := .int .i64 0) rfl ?_
  refine WL.nil ?_
  refine hK11 _ _ ?_
  refine W.block ?_
  obtain ⟨bs14, hbs14, hfs14⟩ := bindE hf
  refine W.loop hbs14 (fun s ρ w => match s with | x13 => ρ 1 = .pointer (some ⟨g6, 0, none⟩) ∧ ρ 3 = .int .i64 x13 ∧ St ok (bz w0) w [vl t_api_Update x1 (.agg cs3.toArray)] [blk g6 41 cs3]) ⟨rfl, rfl, (hs.mask [true]).pick [0]⟩ ?_
  intro x13 ρ w os14 hI hf hbbs14
  obtain ⟨h12_1, h12_3, hs⟩ := hI
  unfold esref14_Commutes.l1 at hf
  refine W.seqK fun K15 hK15 => ?_
  refine W.seqK fun K16 hK16 => ?_
  refine W.region ?_
  refine WL.move (v := .int .i64 x13) h12_3 ?_
  refine WL.fieldAddr (m := 3) h12_1 FA41_3 rfl ?_
  refine WL.loadF (z := x1.Effects) F_api_Update_Effects hs 0 rfl 0 rfl rfl TI39 (.inr rfl) rfl rfl (fun v17 hs => ?_)
  obtain ⟨a18, c19, rfl⟩ := hs.slice 0 rfl
  refine WL.len (v := .slice a18 (x1.Effects).length c19) rfl (len_slice UN39) ?_
  refine WL.bin (v := .bool (decide (x13 < ((x1.Effects).length : Int)))) rfl rfl (ib_lss _ _ _) ?_
  refine WL.nil ?_
  refine hK16 _ _ ?_
  rcases iteE hf with ⟨hc20, hf⟩ | ⟨hc20, hf⟩
  {
  refine W.cond_true (bool_tr rfl hc20) ?_
  refine W.skip ?_
  refine hK15 _ _ ?_
  refine W.seqK fun K21 hK21 => ?_
  refine W.block ?_
  refine W.seqK fun K22 hK22 => ?_
  refine W.region ?_
  refine WL.fieldAddr (m := 3) h12_1 FA41_3 rfl ?_
  refine WL.loadF (z := x1.Effects) F_api_Update_Effects hs 0 rfl 1 rfl rfl TI39 (.inr rfl) rfl rfl (fun v23 hs => ?_)
  obtain ⟨a24, c25, rfl⟩ := hs.slice 0 rfl
  refine WL.move (v := .int .i64 x13) h12_3 ?_
  obtain ⟨x26, hxx26, hf⟩ := bindE hf
  refine WL.indexAddr hs 0 rfl UN39 TI67 rfl rfl hxx26 (fun ad27 hs => ?_)
  refine WL.fieldAddrP (z := x26.Kind) F_api_Effect_Kind hs 0 rfl rfl FA67_0 rfl (fun ad28 hs => ?_)
  refine WL.loadP hs 0 rfl TI3 (.inr rfl) rfl (fun v29 hs => ?_)
  obtain rfl := hs.int 0 rfl
  refine WL.bin (v := .bool (x26.Kind == 1)) rfl rfl (ib_eql _ _ _) ?_
  refine WL.nil ?_
  refine hK22 _ _ ?_
  rcases iteE hf with ⟨hc30, hf⟩ | ⟨hc30, hf⟩
  {
  refine W.cond_true (bool_tr rfl hc30) ?_
  refine W.seqK fun K31 hK31 => ?_
  refine W.region ?_
  refine WL.assign (v := .bool false) rfl ?_
  refine WL.nil ?_
  refine hK31 _ _ ?_
  refine W.ret ?_
  have hr := Option.some.inj hf; subst hr
  have hr := hbbs14 _ rfl; subst hr
  have hf := hfs14
  have hr := Option.some.inj hf; subst hr
  exact ⟨_, resOk_one rfl rfl, (), rfl, (hs.mask []).pick []⟩ }
  {
  refine W.cond_false (bool_tr rfl hc30) ?_
  refine W.skip ?_
  refine hK21 _ _ ?_
  refine W.region ?_
  refine WL.move (v := .int .i64 x13) h12_3 ?_
  obtain ⟨x32, ex32, hf⟩ := letE hf
  refine WL.bin (v := .int .i64 x32) rfl rfl (ib_as ex32 (ib_add _ _ _)) ?_
  refine WL.assign (v := .int .i64 x32) rfl ?_
  refine WL.nil ?_
  exact ⟨_, (Option.some.inj hf).symm, h12_1, rfl, (hs.mask [true]).pick [5]⟩ } }
  {
  refine W.cond_false (bool_tr rfl hc20) ?_
  refine W.exit ?_
  have hr := Option.some.inj hf; subst hr
  have hr := hbbs14 _ rfl; subst hr
  have hf := hfs14
  exact Jk9  _ _  ((hs.mask []).pick []) hf }
theorem esref14_ValidateUpdate.calls {ok : Nat → Prop} {w0 : World} {x1 : api_Update} {v2 : Value} {r : Int} (hf : esref14_ValidateUpdate x1 = some r) (i0 : (vl t_api_Update x1 v2).holds ok w0) :
    Calls Try.prog 20 #[v2] w0 fun e w' => ∃ v, e = .returned v ∧ ∃ y : Unit, v = .int .i64 r ∧ St ok (bz w0) w' [] [] := by
  unfold esref14_ValidateUpdate at hf
  refine calls_of_W (fn := Try.f20) (N := 74) Try.func20 rfl Try.ntmps20 rfl ?_
  have hs : St ok (bz w0) w0 [vl t_api_Update x1 v2] [] := St.init (All.cons i0 All.nil)
  clear i0
  obtain ⟨cs3, hl4, rfl⟩ := hs.aggv (n := 4) 0 rfl rfl rfl
  refine W.seqK fun K5 hK5 => ?_
  refine W.region ?_
  refine WL.box (vs := cs3) hs rfl rfl (fun g6 w hs => ?_)
  refine WL.assign (v := .int .i64 0) rfl ?_
  refine WL.nil ?_
  refine hK5 _ _ ?_
  refine W.seqK fun K7 hK7 => ?_
  refine W.block ?_
  refine W.seqK fun K8 hK8 => ?_
  have Jk11 : ∀ (x10 : Bool) (ρ : Env) (w : World), ρ 1 = .pointer (some ⟨g6, 0, none⟩) → ρ 5 = .bool x10 → St ok (bz w0) w [vl t_api_Update x1 (.agg cs3.toArray)] [blk g6 41 cs3] → esref14_ValidateUpdate.j3 x1 x10 = some r → K8 ρ w := by
    intro x10 ρ w h9_1 h9_5 hs hf
    refine hK8 _ _ ?_
    unfold esref14_ValidateUpdate.j3 at hf
    rcases iteE hf with ⟨hc12, hf⟩ | ⟨hc12, hf⟩
    {
    refine W.cond_true (bool_tr h9_5 hc12) ?_
    refine W.seqK fun K13 hK13 => ?_
    refine W.region ?_
    refine WL.assign (v := .int .i64 9) rfl ?_
    refine WL.nil ?_
    refine hK13 _ _ ?_
    refine W.ret ?_
    have hr := Option.some.inj hf; subst hr
    exact ⟨_, resOk_one rfl rfl, (), rfl, (hs.mask []).pick []⟩ }
    {
    refine W.cond_false (bool_tr h9_5 hc12) ?_
    refine W.seqK fun K14 hK14 => ?_
    refine W.region ?_
    refine WL.fieldAddr (m := 3) h9_1 FA41_3 rfl ?_
    refine WL.loadF (z := x1.Effects) F_api_Update_Effects hs 0 rfl 0 rfl rfl TI39 (.inr rfl) rfl rfl (fun v15 hs => ?_)
    obtain ⟨a16, c17, rfl⟩ := hs.slice 0 rfl
    refine WL.len (v := .slice a16 (x1.Effects).length c17) rfl (len_slice UN39) ?_
    refine WL.bin (v := .bool (((x1.Effects).length : Int) == 0)) rfl rfl (ib_eql _ _ _) ?_
    refine WL.assign (v := .bool (((x1.Effects).length : Int) == 0)) rfl ?_
    refine WL.nil ?_
    refine hK14 _ _ ?_
    rcases iteE hf with ⟨hc18, hf⟩ | ⟨hc18, hf⟩
    {
    refine W.cond_true (bool_tr rfl hc18) ?_
    refine W.seqK fun K19 hK19 => ?_
    refine W.region ?_
    refine WL.assign (v := .int .i64 2) rfl ?_
    refine WL.nil ?_
    refine hK19 _ _ ?_
    refine W.ret ?_
    have hr := Option.some.inj hf; subst hr
    exact ⟨_, resOk_one rfl rfl, (), rfl, (hs.mask []).pick []⟩ }
    {
    refine W.cond_false (bool_tr rfl hc18) ?_
    refine W.seqK fun K20 hK20 => ?_
    refine W.region ?_
    refine WL.fieldAddr (m := 3) h9_1 FA41_3 rfl ?_
    refine WL.loadF (z := x1.Effects) F_api_Update_Effects hs 0 rfl 1 rfl rfl TI39 (.inr rfl) rfl rfl (fun v21 hs => ?_)
    obtain ⟨a22, c23, rfl⟩ := hs.slice 0 rfl
    refine WL.len (v := .slice a22 (x1.Effects).length c23) rfl (len_slice UN39) ?_
    refine WL.bin (v := .bool (decide (4 < ((x1.Effects).length : Int)))) rfl rfl (ib_gtr _ _ _) ?_
    refine WL.assign (v := .bool (decide (4 < ((x1.Effects).length : Int)))) rfl ?_
    refine WL.nil ?_
    refine hK20 _ _ ?_
    rcases iteE hf with ⟨hc24, hf⟩ | ⟨hc24, hf⟩
    {
    refine W.cond_true (bool_tr rfl hc24) ?_
    refine W.seqK fun K25 hK25 => ?_
    refine W.region ?_
    refine WL.assign (v := .int .i64 3) rfl ?_
    refine WL.nil ?_
    refine hK25 _ _ ?_
    refine W.ret ?_
    have hr := Option.some.inj hf; subst hr
    exact ⟨_, resOk_one rfl rfl, (), rfl, (hs.mask []).pick []⟩ }
    {
    refine W.cond_false (bool_tr rfl hc24) ?_
    refine W.skip ?_
    refine hK7 _ _ ?_
    refine W.seqK fun K26 hK26 => ?_
    have Jk28 : ∀  (ρ : Env) (w : World), ρ 1 = .pointer (some ⟨g6, 0, none⟩) → St ok (bz w0) w [vl t_api_Update x1 (.agg cs3.toArray)] [blk g6 41 cs3] → esref14_ValidateUpdate.j2 x1 = some r → K26 ρ w := by
      intro  ρ w h27_1 hs hf
      refine hK26 _ _ ?_
      unfold esref14_ValidateUpdate.j2 at hf
      refine W.seqK fun K29 hK29 => ?_
      refine W.seqK fun K30 hK30 => ?_
      have Jk33 : ∀ (x32 : Bool) (ρ : Env) (w : World), ρ 73 = .bool x32 → St ok (bz w0) w [] [] → esref14_ValidateUpdate.j1 x32 = some r → K30 ρ w := by
        intro x32 ρ w h31_73 hs hf
        refine hK30 _ _ ?_
        unfold esref14_ValidateUpdate.j1 at hf
        rcases iteE hf with ⟨hc34, hf⟩ | ⟨hc34, hf⟩
        {
        refine W.cond_true (bool_tr h31_73 hc34) ?_
        refine W.seqK fun K35 hK35 => ?_
        refine W.region ?_
        refine WL.assign (v := .int .i64 2) rfl ?_
        refine WL.nil ?_
        refine hK35 _ _ ?_
        refine W.ret ?_
        have hr := Option.some.inj hf; subst hr
        exact ⟨_, resOk_one rfl rfl, (), rfl, (hs.mask []).pick []⟩ }
        {
        refine W.cond_false (bool_tr h31_73 hc34) ?_
        refine W.skip ?_
        refine hK29 _ _ ?_
        refine W.seqK fun K36 hK36 => ?_
        refine W.region ?_
        refine WL.assign (v := .int .i64 0) rfl ?_
        refine WL.nil ?_
        refine hK36 _ _ ?_
        refine W.ret ?_
        have hr := Option.some.inj hf; subst hr
        exact ⟨_, resOk_one rfl rfl, (), rfl, (hs.mask []).pick []⟩ }
      refine W.region ?_
      refine WL.loadAll hs 0 rfl TI41 h27_1 hl4 ?_
      obtain ⟨x37, hxx37, hf⟩ := bindE hf
      refine WL.call (vs := [.agg cs3.toArray]) hs FN48 ⟨rfl, trivial⟩ (fun ok hA => esref14_Commutes.calls (x1 := x1) hxx37 (hA.get 0 rfl)) ?_
      rintro _ w hs
      refine WL.not rfl ?_
      refine WL.move (v := .bool (!x37)) rfl ?_
      rcases iteE hf with ⟨hc38, hf⟩ | ⟨hc38, hf⟩
      {
      refine WL.fieldAddr (m := 3) h27_1 FA41_3 rfl ?_ (hg := (wanted_of rfl rfl (bool_tr rfl hc38)).trans rfl)
      refine WL.loadF (z := x1.Effects) F_api_Update_Effects hs 0 rfl 0 rfl rfl TI39 (.inr rfl) rfl rfl (fun v39 hs => ?_) (hg := (wanted_of rfl rfl (bool_tr rfl hc38)).trans rfl)
      obtain ⟨a40, c41, rfl⟩ := hs.slice 0 rfl
      refine WL.len (v := .slice a40 (x1.Effects).length c41) rfl (len_slice UN39) ?_ (hg := (wanted_of rfl rfl (bool_tr rfl hc38)).trans rfl)
      refine WL.bin (v := .bool (decide (1 < ((x1.Effects).length : Int)))) rfl rfl (ib_gtr _ _ _) ?_ (hg := (wanted_of rfl rfl (bool_tr rfl hc38)).trans rfl)
      refine WL.pickT (v := .bool (decide (1 < ((x1.Effects).length : Int)))) (bool_tr rfl hc38) rfl ?_
      refine WL.move (v := .bool (decide (1 < ((x1.Effects).length : Int)))) rfl ?_
      rcases iteE hf with ⟨hc42, hf⟩ | ⟨hc42, hf⟩
      {
      refine WL.pass ((wanted_of rfl rfl (bool_tr rfl hc42)).trans rfl) rfl ?_
      refine WL.pass ((wanted_of rfl rfl (bool_tr rfl hc42)).trans rfl) rfl ?_
      refine WL.pass ((wanted_of rfl rfl (bool_tr rfl hc42)).trans rfl) rfl ?_
      refine WL.pass (wanted_undef rfl rfl rfl) rfl ?_
      refine WL.pass (wanted_undef rfl rfl rfl) rfl ?_
      refine WL.pass (wanted_undef rfl rfl rfl) rfl ?_
      refine WL.pass ((wanted_of rfl rfl (bool_tr rfl hc42)).trans rfl) rfl ?_
      refine WL.pickT (v := .bool true) (bool_tr rfl hc42) rfl ?_
      refine WL.nil ?_
      exact Jk33 true _ _ rfl ((hs.mask []).pick []) hf }
      {
      refine WL.loadAll hs 0 rfl TI41 h27_1 hl4 ?_ (hg := (wanted_of rfl rfl (bool_tr rfl hc42)).trans rfl)
      obtain ⟨x43, hxx43, hf⟩ := bindE hf
      refine WL.call (vs := [.agg cs3.toArray]) hs FN48 ⟨rfl, trivial⟩ (fun ok hA => esref14_Commutes.calls (x1 := x1) hxx43 (hA.get 1 rfl)) ?_ (hg := (wanted_of rfl rfl (bool_tr rfl hc42)).trans rfl)
      rintro _ w hs
      refine WL.move (v := .bool x43) rfl ?_ (hg := (wanted_of rfl rfl (bool_tr rfl hc42)).trans rfl)
      rcases iteE hf with ⟨hc44, hf⟩ | ⟨hc44, hf⟩
      {
      refine WL.fieldAddr (m := 2) h27_1 FA41_2 rfl ?_ (hg := (wanted_of rfl rfl (bool_tr rfl hc44)).trans rfl)
      refine WL.loadF (z := x1.Tag) F_api_Update_Tag hs 0 rfl 1 rfl rfl TI3 (.inr rfl) rfl rfl (fun v45 hs => ?_) (hg := (wanted_of rfl rfl (bool_tr rfl hc44)).trans rfl)
      obtain rfl := hs.int 0 rfl
      refine WL.bin (v := .bool (x1.Tag != 0)) rfl rfl (ib_neq _ _ _) ?_ (hg := (wanted_of rfl rfl (bool_tr rfl hc44)).trans rfl)
      refine WL.pickT (v := .bool (x1.Tag != 0)) (bool_tr rfl hc44) rfl ?_ (hg := (wanted_of rfl rfl (bool_tr rfl hc42)).trans rfl)
      refine WL.pickF (v := .bool (x1.Tag != 0)) (bool_tr rfl hc42) rfl ?_
      refine WL.nil ?_
      exact Jk33 (x1.Tag != 0) _ _ rfl ((hs.mask []).pick []) hf }
      {
      refine WL.pass ((wanted_of rfl rfl (bool_tr rfl hc44)).trans rfl) rfl ?_
      refine WL.pass ((wanted_of rfl rfl (bool_tr rfl hc44)).trans rfl) rfl ?_
      refine WL.pass ((wanted_of rfl rfl (bool_tr rfl hc44)).trans rfl) rfl ?_
      refine WL.pickF (v := .bool false) (bool_tr rfl hc44) rfl ?_ (hg := (wanted_of rfl rfl (bool_tr rfl hc42)).trans rfl)
      refine WL.pickF (v := .bool false) (bool_tr rfl hc42) rfl ?_
      refine WL.nil ?_
      exact Jk33 false _ _ rfl ((hs.mask []).pick []) hf } } }
      {
      refine WL.pass ((wanted_of rfl rfl (bool_tr rfl hc38)).trans rfl) rfl ?_
      refine WL.pass ((wanted_of rfl rfl (bool_tr rfl hc38)).trans rfl) rfl ?_
      refine WL.pass ((wanted_of rfl rfl (bool_tr rfl hc38)).trans rfl) rfl ?_
      refine WL.pass ((wanted_of rfl rfl (bool_tr rfl hc38)).trans rfl) rfl ?_
      refine WL.pickF (v := .bool false) (bool_tr rfl hc38) rfl ?_
      refine WL.move (v := .bool false) rfl ?_
      refine WL.loadAll hs 0 rfl TI41 h27_1 hl4 ?_ (hg := (wanted_of rfl rfl rfl).trans rfl)
      obtain ⟨x46, hxx46, hf⟩ := bindE hf
      refine WL.call (vs := [.agg cs3.toArray]) hs FN48 ⟨rfl, trivial⟩ (fun ok hA => esref14_Commutes.calls (x1 := x1) hxx46 (hA.get 0 rfl)) ?_ (hg := (wanted_of rfl rfl rfl).trans rfl)
      rintro _ w hs
      refine WL.move (v := .bool x46) rfl ?_ (hg := (wanted_of rfl rfl rfl).trans rfl)
      rcases iteE hf with ⟨hc47, hf⟩ | ⟨hc47, hf⟩
      {
      refine WL.fieldAddr (m := 2) h27_1 FA41_2 rfl ?_ (hg := (wanted_of rfl rfl (bool_tr rfl hc47)).trans rfl)
      refine WL.loadF (z := x1.Tag) F_api_Update_Tag hs 0 rfl 0 rfl rfl TI3 (.inr rfl) rfl rfl (fun v48 hs => ?_) (hg := (wanted_of rfl rfl (bool_tr rfl hc47)).trans rfl)
      obtain rfl := hs.int 0 rfl
      refine WL.bin (v := .bool (x1.Tag != 0)) rfl rfl (ib_neq _ _ _) ?_ (hg := (wanted_of rfl rfl (bool_tr rfl hc47)).trans rfl)
      refine WL.pickT (v := .bool (x1.Tag != 0)) (bool_tr rfl hc47) rfl ?_ (hg := (wanted_of rfl rfl rfl).trans rfl)
      refine WL.pickF (v := .bool (x1.Tag != 0)) rfl rfl ?_
      refine WL.nil ?_
      exact Jk33 (x1.Tag != 0) _ _ rfl ((hs.mask []).pick []) hf }
      {
      refine WL.pass ((wanted_of rfl rfl (bool_tr rfl hc47)).trans rfl) rfl ?_
      refine WL.pass ((wanted_of rfl rfl (bool_tr rfl hc47)).trans rfl) rfl ?_
      refine WL.pass ((wanted_of rfl rfl (bool_tr rfl hc47)).trans rfl) rfl ?_
      refine WL.pickF (v := .bool false) (bool_tr rfl hc47) rfl ?_ (hg := (wanted_of rfl rfl rfl).trans rfl)
      refine WL.pickF (v := .bool false) rfl rfl ?_
      refine WL.nil ?_
      exact Jk33 false _ _ rfl ((hs.mask []).pick []) hf } }
    refine W.seqK fun K49 hK49 => ?_
    refine W.region ?_
    refine WL.assign (v := .int .i64 0) rfl ?_
    refine WL.nil ?_
    refine hK49 _ _ ?_
    refine W.block ?_
    obtain ⟨bs52, hbs52, hfs52⟩ := bindE hf
    refine W.loop hbs52 (fun s ρ w => match s with | x51 => ρ 1 = .pointer (some ⟨g6, 0, none⟩) ∧ ρ 3 = .int .i64 x51 ∧ St ok (bz w0) w [vl t_api_Update x1 (.agg cs3.toArray)] [blk g6 41 cs3]) ⟨h9_1, rfl, (hs.mask [true]).pick [2]⟩ ?_
    intro x51 ρ w os52 hI hf hbbs52
    obtain ⟨h50_1, h50_3, hs⟩ := hI
    unfold esref14_ValidateUpdate.l1 at hf
    refine W.seqK fun K53 hK53 => ?_
    refine W.seqK fun K54 hK54 => ?_
    refine W.region ?_
    refine WL.move (v := .int .i64 x51) h50_3 ?_
    refine WL.fieldAddr (m := 3) h50_1 FA41_3 rfl ?_
    refine WL.loadF (z := x1.Effects) F_api_Update_Effects hs 0 rfl 0 rfl rfl TI39 (.inr rfl) rfl rfl (fun v55 hs => ?_)
    obtain ⟨a56, c57, rfl⟩ := hs.slice 0 rfl
    refine WL.len (v := .slice a56 (x1.Effects).length c57) rfl (len_slice UN39) ?_
    refine WL.bin (v := .bool (decide (x51 < ((x1.Effects).length : Int)))) rfl rfl (ib_lss _ _ _) ?_
    refine WL.nil ?_
    refine hK54 _ _ ?_
    rcases iteE hf with ⟨hc58, hf⟩ | ⟨hc58, hf⟩
    {
    refine W.cond_true (bool_tr rfl hc58) ?_
    refine W.skip ?_
    refine hK53 _ _ ?_
    refine W.seqK fun K59 hK59 => ?_
    refine W.block ?_
    refine W.seqK fun K60 hK60 => ?_
    refine W.region ?_
    refine WL.fieldAddr (m := 3) h50_1 FA41_3 rfl ?_
    refine WL.loadF (z := x1.Effects) F_api_Update_Effects hs 0 rfl 1 rfl rfl TI39 (.inr rfl) rfl rfl (fun v61 hs => ?_)
    obtain ⟨a62, c63, rfl⟩ := hs.slice 0 rfl
    refine WL.move (v := .int .i64 x51) h50_3 ?_
    obtain ⟨x64, hxx64, hf⟩ := bindE hf
    refine WL.indexAddr hs 0 rfl UN39 TI67 rfl rfl hxx64 (fun ad65 hs => ?_)
    refine WL.loadP hs 0 rfl TI67 (.inl rfl) rfl (fun v66 hs => ?_)
    obtain ⟨cs67, hl68, rfl⟩ := hs.aggv (n := 5) 0 rfl rfl rfl
    obtain ⟨x69, hxx69, hf⟩ := bindE hf
    refine WL.call (vs := [.agg cs67.toArray]) hs FN47 ⟨rfl, trivial⟩ (fun ok hA => esref14_ValidateEffect.calls (x1 := x64) hxx69 (hA.get 0 rfl)) ?_
    rintro _ w hs
    refine WL.assign (v := .int .i64 x69) rfl ?_
    refine WL.nil ?_
    refine hK60 _ _ ?_
    refine W.seqK fun K70 hK70 => ?_
    refine W.region ?_
    refine WL.move (v := .int .i64 x69) rfl ?_
    refine WL.bin (v := .bool (x69 != 0)) rfl rfl (ib_neq _ _ _) ?_
    refine WL.nil ?_
    refine hK70 _ _ ?_
    rcases iteE hf with ⟨hc71, hf⟩ | ⟨hc71, hf⟩
    {
    refine W.cond_true (bool_tr rfl hc71) ?_
    refine W.seqK fun K72 hK72 => ?_
    refine W.region ?_
    refine WL.move (v := .int .i64 x69) rfl ?_
    refine WL.assign (v := .int .i64 x69) rfl ?_
    refine WL.nil ?_
    refine hK72 _ _ ?_
    refine W.ret ?_
    have hr := Option.some.inj hf; subst hr
    have hr := hbbs52 _ rfl; subst hr
    have hf := hfs52
    have hr := Option.some.inj hf; subst hr
    exact ⟨_, resOk_one rfl rfl, (), rfl, (hs.mask []).pick []⟩ }
    {
    refine W.cond_false (bool_tr rfl hc71) ?_
    refine W.skip ?_
    refine hK59 _ _ ?_
    refine W.region ?_
    refine WL.move (v := .int .i64 x51) h50_3 ?_
    obtain ⟨x73, ex73, hf⟩ := letE hf
    refine WL.bin (v := .int .i64 x73) rfl rfl (ib_as ex73 (ib_add _ _ _)) ?_
    refine WL.assign (v := .int .i64 x73) rfl ?_
    refine WL.nil ?_
    exact ⟨_, (Option.some.inj hf).symm, h50_1, rfl, (hs.mask [true]).pick [4]⟩ } }
    {
    refine W.cond_false (bool_tr rfl hc58) ?_
    refine W.exit ?_
    have hr := Option.some.inj hf; subst hr
    have hr := hbbs52 _ rfl; subst hr
    have hf := hfs52
    exact Jk28  _ _ h50_1 ((hs.mask [true]).pick [1]) hf } } } }
  refine W.region ?_
  refine WL.fieldAddr (m := 0) rfl FA41_0 rfl ?_
  refine WL.loadF (z := x1.Client) F_api_Update_Client hs 0 rfl 0 rfl rfl TI3 (.inr rfl) rfl rfl (fun v75 hs => ?_)
  obtain rfl := hs.int 0 rfl
  obtain ⟨x76, hxx76, hf⟩ := bindE hf
  refine WL.call (vs := [.int .i64 x1.Client]) hs FN46 ⟨rfl, trivial⟩ (fun ok hA => esref06_Client.calls (x1 := x1.Client) hxx76) ?_
  rintro _ w hs
  refine WL.not rfl ?_
  refine WL.move (v := .bool (!x76)) rfl ?_
  rcases iteE hf with ⟨hc77, hf⟩ | ⟨hc77, hf⟩
  {
  refine WL.pass ((wanted_of rfl rfl (bool_tr rfl hc77)).trans rfl) rfl ?_
  refine WL.pass ((wanted_of rfl rfl (bool_tr rfl hc77)).trans rfl) rfl ?_
  refine WL.pass ((wanted_of rfl rfl (bool_tr rfl hc77)).trans rfl) rfl ?_
  refine WL.pickT (v := .bool true) (bool_tr rfl hc77) rfl ?_
  refine WL.move (v := .bool true) rfl ?_
  refine WL.pass ((wanted_of rfl rfl rfl).trans rfl) rfl ?_
  refine WL.pass ((wanted_of rfl rfl rfl).trans rfl) rfl ?_
  refine WL.pass ((wanted_of rfl rfl rfl).trans rfl) rfl ?_
  refine WL.pickT (v := .bool true) rfl rfl ?_
  refine WL.move (v := .bool true) rfl ?_
  refine WL.pass ((wanted_of rfl rfl rfl).trans rfl) rfl ?_
  refine WL.pass ((wanted_of rfl rfl rfl).trans rfl) rfl ?_
  refine WL.pass ((wanted_of rfl rfl rfl).trans rfl) rfl ?_
  refine WL.pickT (v := .bool true) rfl rfl ?_
  refine WL.move (v := .bool true) rfl ?_
  refine WL.pass ((wanted_of rfl rfl rfl).trans rfl) rfl ?_
  refine WL.pass ((wanted_of rfl rfl rfl).trans rfl) rfl ?_
  refine WL.pass ((wanted_of rfl rfl rfl).trans rfl) rfl ?_
  refine WL.pickT (v := .bool true) rfl rfl ?_
  refine WL.assign (v := .bool true) rfl ?_
  refine WL.nil ?_
  exact Jk11 true _ _ rfl rfl ((hs.mask [true]).pick [1]) hf }
  {
  refine WL.fieldAddr (m := 1) rfl FA41_1 rfl ?_ (hg := (wanted_of rfl rfl (bool_tr rfl hc77)).trans rfl)
  refine WL.loadF (z := x1.Seq) F_api_Update_Seq hs 0 rfl 1 rfl rfl TI3 (.inr rfl) rfl rfl (fun v78 hs => ?_) (hg := (wanted_of rfl rfl (bool_tr rfl hc77)).trans rfl)
  obtain rfl := hs.int 0 rfl
  refine WL.bin (v := .bool (decide (x1.Seq < 1))) rfl rfl (ib_lss _ _ _) ?_ (hg := (wanted_of rfl rfl (bool_tr rfl hc77)).trans rfl)
  refine WL.pickF (v := .bool (decide (x1.Seq < 1))) (bool_tr rfl hc77) rfl ?_
  refine WL.move (v := .bool (decide (x1.Seq < 1))) rfl ?_
  rcases iteE hf with ⟨hc79, hf⟩ | ⟨hc79, hf⟩
  {
  refine WL.pass ((wanted_of rfl rfl (bool_tr rfl hc79)).trans rfl) rfl ?_
  refine WL.pass ((wanted_of rfl rfl (bool_tr rfl hc79)).trans rfl) rfl ?_
  refine WL.pass ((wanted_of rfl rfl (bool_tr rfl hc79)).trans rfl) rfl ?_
  refine WL.pickT (v := .bool true) (bool_tr rfl hc79) rfl ?_
  refine WL.move (v := .bool true) rfl ?_
  refine WL.pass ((wanted_of rfl rfl rfl).trans rfl) rfl ?_
  refine WL.pass ((wanted_of rfl rfl rfl).trans rfl) rfl ?_
  refine WL.pass ((wanted_of rfl rfl rfl).trans rfl) rfl ?_
  refine WL.pickT (v := .bool true) rfl rfl ?_
  refine WL.move (v := .bool true) rfl ?_
  refine WL.pass ((wanted_of rfl rfl rfl).trans rfl) rfl ?_
  refine WL.pass ((wanted_of rfl rfl rfl).trans rfl) rfl ?_
  refine WL.pass ((wanted_of rfl rfl rfl).trans rfl) rfl ?_
  refine WL.pickT (v := .bool true) rfl rfl ?_
  refine WL.assign (v := .bool true) rfl ?_
  refine WL.nil ?_
  exact Jk11 true _ _ rfl rfl ((hs.mask [true]).pick [2]) hf }
  {
  refine WL.fieldAddr (m := 1) rfl FA41_1 rfl ?_ (hg := (wanted_of rfl rfl (bool_tr rfl hc79)).trans rfl)
  refine WL.loadF (z := x1.Seq) F_api_Update_Seq hs 0 rfl 2 rfl rfl TI3 (.inr rfl) rfl rfl (fun v80 hs => ?_) (hg := (wanted_of rfl rfl (bool_tr rfl hc79)).trans rfl)
  obtain rfl := hs.int 0 rfl
  refine WL.bin (v := .bool (decide (8 < x1.Seq))) rfl rfl (ib_gtr _ _ _) ?_ (hg := (wanted_of rfl rfl (bool_tr rfl hc79)).trans rfl)
  refine WL.pickF (v := .bool (decide (8 < x1.Seq))) (bool_tr rfl hc79) rfl ?_
  refine WL.move (v := .bool (decide (8 < x1.Seq))) rfl ?_
  rcases iteE hf with ⟨hc81, hf⟩ | ⟨hc81, hf⟩
  {
  refine WL.pass ((wanted_of rfl rfl (bool_tr rfl hc81)).trans rfl) rfl ?_
  refine WL.pass ((wanted_of rfl rfl (bool_tr rfl hc81)).trans rfl) rfl ?_
  refine WL.pass ((wanted_of rfl rfl (bool_tr rfl hc81)).trans rfl) rfl ?_
  refine WL.pickT (v := .bool true) (bool_tr rfl hc81) rfl ?_
  refine WL.move (v := .bool true) rfl ?_
  refine WL.pass ((wanted_of rfl rfl rfl).trans rfl) rfl ?_
  refine WL.pass ((wanted_of rfl rfl rfl).trans rfl) rfl ?_
  refine WL.pass ((wanted_of rfl rfl rfl).trans rfl) rfl ?_
  refine WL.pickT (v := .bool true) rfl rfl ?_
  refine WL.assign (v := .bool true) rfl ?_
  refine WL.nil ?_
  exact Jk11 true _ _ rfl rfl ((hs.mask [true]).pick [3]) hf }
  {
  refine WL.fieldAddr (m := 2) rfl FA41_2 rfl ?_ (hg := (wanted_of rfl rfl (bool_tr rfl hc81)).trans rfl)
  refine WL.loadF (z := x1.Tag) F_api_Update_Tag hs 0 rfl 3 rfl rfl TI3 (.inr rfl) rfl rfl (fun v82 hs => ?_) (hg := (wanted_of rfl rfl (bool_tr rfl hc81)).trans rfl)
  obtain rfl := hs.int 0 rfl
  refine WL.bin (v := .bool (decide (x1.Tag < 0))) rfl rfl (ib_lss _ _ _) ?_ (hg := (wanted_of rfl rfl (bool_tr rfl hc81)).trans rfl)
  refine WL.pickF (v := .bool (decide (x1.Tag < 0))) (bool_tr rfl hc81) rfl ?_
  refine WL.move (v := .bool (decide (x1.Tag < 0))) rfl ?_
  rcases iteE hf with ⟨hc83, hf⟩ | ⟨hc83, hf⟩
  {
  refine WL.pass ((wanted_of rfl rfl (bool_tr rfl hc83)).trans rfl) rfl ?_
  refine WL.pass ((wanted_of rfl rfl (bool_tr rfl hc83)).trans rfl) rfl ?_
  refine WL.pass ((wanted_of rfl rfl (bool_tr rfl hc83)).trans rfl) rfl ?_
  refine WL.pickT (v := .bool true) (bool_tr rfl hc83) rfl ?_
  refine WL.assign (v := .bool true) rfl ?_
  refine WL.nil ?_
  exact Jk11 true _ _ rfl rfl ((hs.mask [true]).pick [4]) hf }
  {
  refine WL.fieldAddr (m := 2) rfl FA41_2 rfl ?_ (hg := (wanted_of rfl rfl (bool_tr rfl hc83)).trans rfl)
  refine WL.loadF (z := x1.Tag) F_api_Update_Tag hs 0 rfl 4 rfl rfl TI3 (.inr rfl) rfl rfl (fun v84 hs => ?_) (hg := (wanted_of rfl rfl (bool_tr rfl hc83)).trans rfl)
  obtain rfl := hs.int 0 rfl
  refine WL.bin (v := .bool (decide (1000 < x1.Tag))) rfl rfl (ib_gtr _ _ _) ?_ (hg := (wanted_of rfl rfl (bool_tr rfl hc83)).trans rfl)
  refine WL.pickF (v := .bool (decide (1000 < x1.Tag))) (bool_tr rfl hc83) rfl ?_
  refine WL.assign (v := .bool (decide (1000 < x1.Tag))) rfl ?_
  refine WL.nil ?_
  exact Jk11 (decide (1000 < x1.Tag)) _ _ rfl rfl ((hs.mask [true]).pick [5]) hf } } } }
end Go.Proofs.Ytlbcfjblpopcnaa
set_option linter.unusedVariables false
set_option linter.unusedSimpArgs false
namespace Go.Proofs.Ytlbcfjblpopcnaa
open Go Go.RowKit Go.Proofs.YtlbcfjblpopcnaaL
set_option maxRecDepth 100000
set_option maxHeartbeats 4000000
end Go.Proofs.Ytlbcfjblpopcnaa
set_option linter.unusedVariables false
set_option linter.unusedSimpArgs false
namespace Go.Proofs.Ytlbcfjblpopcnaa
open Go Go.RowKit Go.Proofs.YtlbcfjblpopcnaaL
set_option maxRecDepth 100000
set_option maxHeartbeats 4000000
end Go.Proofs.Ytlbcfjblpopcnaa
set_option linter.unusedVariables false
set_option linter.unusedSimpArgs false
namespace Go.Proofs.Ytlbcfjblpopcnaa
open Go Go.RowKit Go.Proofs.YtlbcfjblpopcnaaL
set_option maxRecDepth 100000
set_option maxHeartbeats 4000000
theorem eslaw30_FoldApply.calls {ok : Nat → Prop} {w0 : World} {x1 : List Int} {x4 : api_Update} {a2 : Option Addr} {c3 : Nat} {v5 : Value} {r : Bool} (hf : eslaw30_FoldApply x1 x4 = some r) (i0 : (vl (tSlice (tInt .i64)) x1 (.slice a2 x1.length c3)).holds ok w0) (i1 : (vl t_api_Update x4 v5).holds ok w0) :
    Calls Try.prog 5 #[.slice a2 x1.length c3, v5] w0 fun e w' => ∃ v, e = .returned v ∧ ∃ y : Unit, v = .bool r ∧ St ok (bz w0) w' [] [] := by
  unfold eslaw30_FoldApply at hf
  refine calls_of_W (fn := Try.f5) (N := 33) Try.func5 rfl Try.ntmps5 rfl ?_
  have hs : St ok (bz w0) w0 [vl (tSlice (tInt .i64)) x1 (.slice a2 x1.length c3), vl t_api_Update x4 v5] [] := St.init (All.cons i0 (All.cons i1 All.nil))
  clear i0 i1
  obtain ⟨cs6, hl7, rfl⟩ := hs.aggv (n := 4) 1 rfl rfl rfl
  refine W.seqK fun K8 hK8 => ?_
  refine W.region ?_
  refine WL.box (vs := cs6) hs rfl rfl (fun g9 w hs => ?_)
  refine WL.assign (v := .bool false) rfl ?_
  refine WL.nil ?_
  refine hK8 _ _ ?_
  refine W.seqK fun K10 hK10 => ?_
  refine W.seqK fun K11 hK11 => ?_
  refine W.region ?_
  refine WL.loadAll hs 0 rfl TI41 rfl hl7 ?_
  obtain ⟨x12, hxx12, hf⟩ := bindE hf
  refine WL.call (vs := [.agg cs6.toArray]) hs FN20 ⟨rfl, trivial⟩ (fun ok hA => esref14_ValidateUpdate.calls (x1 := x4) hxx12 (hA.get 1 rfl)) ?_
  rintro _ w hs
  refine WL.bin (v := .bool (x12 != 0)) rfl rfl (ib_neq _ _ _) ?_
  refine WL.nil ?_
  refine hK11 _ _ ?_
  rcases iteE hf with ⟨hc13, hf⟩ | ⟨hc13, hf⟩
  {
  refine W.cond_true (bool_tr rfl hc13) ?_
  refine W.seqK fun K14 hK14 => ?_
  refine W.region ?_
  obtain ⟨x15, hxx15, hf⟩ := bindE hf
  refine WL.call (vs := []) hs FN12 trivial (fun ok hA => eslaw30_awake.calls hxx15) ?_
  rintro _ w hs
  refine WL.assign (v := .bool x15) rfl ?_
  refine WL.nil ?_
  refine hK14 _ _ ?_
  refine W.ret ?_
  have hr := Option.some.inj hf; subst hr
  exact ⟨_, resOk_one rfl rfl, (), rfl, (hs.mask []).pick []⟩ }
  {
  refine W.cond_false (bool_tr rfl hc13) ?_
  refine W.skip ?_
  refine hK10 _ _ ?_
  refine W.seqK fun K16 hK16 => ?_
  refine W.region ?_
  refine WL.move (v := .slice a2 x1.length c3) rfl ?_
  obtain ⟨x17, hxx17, hf⟩ := bindE hf
  refine WL.call (vs := [.slice a2 x1.length c3]) hs FN19 ⟨rfl, trivial⟩ (fun ok hA => eslaw00_Updates.calls (x1 := x1) hxx17 (hA.get 0 rfl)) ?_
  rintro ⟨a18, n19, c20⟩ w hs
  obtain rfl := hs.ownLen 0 rfl
  have hs := hs.freezeOwn 0 rfl
  obtain ⟨x21, hxx21, hf⟩ := bindE hf
  refine WL.call (vs := [.slice a18 x17.length c20]) hs FN13 ⟨rfl, trivial⟩ (fun ok hA => fold_Fold.calls (x1 := x17) hxx21 (hA.get 0 rfl)) ?_
  rintro cs22 w hs
  have hl23 := hs.agglen (n := 1) 0 rfl rfl rfl
  refine WL.alloc hs ZV29 (fun g24 w hs => ?_)
  refine WL.storeAll (vs := cs22) hs 0 rfl TI29 rfl rfl rfl hl23 (hs.ones 0 rfl rfl) rfl (fun w hs => ?_)
  refine WL.nil ?_
  refine hK16 _ _ ?_
  refine W.seqK fun K25 hK25 => ?_
  refine W.region ?_
  refine WL.loadAll hs 0 rfl TI29 rfl hl23 ?_
  obtain ⟨x26, hxx26, hf⟩ := bindE hf
  refine WL.call (vs := [.agg cs22.toArray]) hs FN21 ⟨rfl, trivial⟩ (fun ok hA => esref32_Copy.calls (x1 := x21) hxx26 (hA.get 0 rfl)) ?_
  rintro ⟨a27, n28, c29⟩ w hs
  refine WL.alloc hs ZV29 (fun g30 w hs => ?_)
  refine WL.storeAll (vs := [.slice a27 n28 c29]) hs 0 rfl TI29 rfl rfl rfl rfl (ones_of rfl) rfl (fun w hs => ?_)
  refine WL.nil ?_
  refine hK25 _ _ ?_
  refine W.seqK fun K31 hK31 => ?_
  refine W.region ?_
  refine WL.loadAll hs 2 rfl TI29 rfl hl23 ?_
  refine WL.loadAll hs 3 rfl TI41 rfl hl7 ?_
  obtain ⟨x32, hxx32, hf⟩ := bindE hf
  refine WL.call (vs := [.agg cs22.toArray, .agg cs6.toArray]) hs FN22 ⟨rfl, ⟨rfl, trivial⟩⟩ (fun ok hA => fold_Apply.calls (x1 := x21) (x2 := x4) hxx32 (hA.get 0 rfl) (hA.get 3 rfl)) ?_
  rintro cs33 w hs
  have hl34 := hs.agglen (n := 1) 0 rfl rfl rfl
  refine WL.alloc hs ZV29 (fun g35 w hs => ?_)
  refine WL.storeAll (vs := cs33) hs 0 rfl TI29 rfl rfl rfl hl34 (hs.ones 0 rfl rfl) rfl (fun w hs => ?_)
  refine WL.nil ?_
  refine hK31 _ _ ?_
  refine W.seqK fun K36 hK36 => ?_
  have Jk39 : ∀ (x38 : Bool) (ρ : Env) (w : World), ρ 4 = .bool x38 → St ok (bz w0) w [] [] → eslaw30_FoldApply.j1 x38 = some r → K36 ρ w := by
    intro x38 ρ w h37_4 hs hf
    refine hK36 _ _ ?_
    unfold eslaw30_FoldApply.j1 at hf
    refine W.ret ?_
    have hr := Option.some.inj hf; subst hr
    exact ⟨_, resOk_one rfl h37_4, (), rfl, (hs.mask []).pick []⟩
  obtain rfl := hs.ownLen 2 rfl
  have hs := hs.freezeOwn 2 rfl
  obtain ⟨x40, hxx40, hf⟩ := bindE hf
  obtain ⟨x43, hxx43, hf⟩ := bindE hf
  rcases iteE hf with ⟨hc44, hf⟩ | ⟨hc44, hf⟩
  {
  obtain ⟨x45, hxx45, hf⟩ := bindE hf
  rcases iteE hf with ⟨hc46, hf⟩ | ⟨hc46, hf⟩
  {
  obtain ⟨x47, hxx47, hf⟩ := bindE hf
  refine W.any (by kernel_rfl) 13 1 [true, true, true, true, true, true, true, true, true, true, true, true, true, false] rfl rfl (poAt [pv (.agg cs33.toArray), pv (.agg ([.slice a27 (x26.Objects).length c29] : List Value).toArray), pv (.agg cs6.toArray), pq (fun y : List Value => .agg y.toArray) (fun v => [vl t_fold_Store x40 v]) (fun v => []), pv (.bool x43), pv (.bool x43), pv (.agg cs22.toArray), pv (.agg ([.slice a27 (x26.Objects).length c29] : List Value).toArray), pv (.bool x45), pv (.bool x45), pv (.bool x45), pv (.bool x47), pv (.bool x47)]) (Λ := [blk g35 29 cs33, blk g30 29 [.slice a27 (x26.Objects).length c29], blk g24 29 cs22, blk g9 41 cs6]) hs (by kernel_rfl) (by kernel_rfl) (by kernel_rfl) ⟨⟨⟨⟨⟨⟨⟨⟨⟨⟨⟨⟨⟨trivial, ?_⟩, ?_⟩, ?_⟩, ?_⟩, ?_⟩, ?_⟩, ?_⟩, ?_⟩, ?_⟩, ?_⟩, ?_⟩, ?_⟩, ?_⟩ ?_
  {
  intro ρ w Γx Λx hs hu hp
  refine WL.loadAll hs (Λx.length + 0) (getApp rfl) TI29 (hu 7 rfl) hl34 ?_
  exact WL.nil ⟨rfl, _, rfl, rfl, hs.cutG 0 0⟩ }
  {
  intro ρ w Γx Λx hs hu hp
  refine WL.loadN (vs := [.slice a27 (x26.Objects).length c29]) hs (Λx.length + 1) (getApp rfl) TI29 (hu 6 rfl) rfl rfl ?_
  exact WL.nil ⟨rfl, _, rfl, rfl, hs.cutG 0 0⟩ }
  {
  intro ρ w Γx Λx hs hu hp
  refine WL.loadAll hs (Λx.length + 3) (getApp rfl) TI41 (hu 3 rfl) hl7 ?_
  exact WL.nil ⟨rfl, _, rfl, rfl, hs.cutG 0 0⟩ }
  {
  intro ρ w Γx Λx hs hu hp
  have e48 : ρ 21 = .agg ([.slice a27 (x26.Objects).length c29] : List Value).toArray := (hp 1 rfl).1
  have e49 : ρ 22 = .agg cs6.toArray := (hp 2 rfl).1
  have hs := hs.add (it := vl t_fold_Store (⟨x26.Objects⟩ : fold_Store) (.agg [.slice a27 (x26.Objects).length c29].toArray)) fun ok hA => V_agg ((R_one (hA.get (Γx.length + 0) (getApp rfl)))) rfl
  refine WL.call (vs := [.agg ([.slice a27 (x26.Objects).length c29] : List Value).toArray, .agg cs6.toArray]) hs FN23 ⟨e48, ⟨e49, trivial⟩⟩ (fun ok hA => esref32_Apply.calls (x1 := (⟨x26.Objects⟩ : fold_Store)) (x2 := x4) hxx40 (hA.get 0 rfl) (hA.get (Γx.length + 5 + 1) (getApp1 rfl))) ?_
  rintro cs41 w hs
  have hl42 := hs.agglen (n := 1) 0 rfl rfl rfl
  have hs := hs.add (it := vl t_fold_Store x40 (.agg cs41.toArray)) fun ok hA => hA.get 0 rfl
  exact WL.nil ⟨rfl, _, rfl, ⟨cs41, rfl⟩, hs.cutG 1 2⟩ }
  {
  intro ρ w Γx Λx hs hu hp
  have e50 : ρ 20 = .agg cs33.toArray := (hp 0 rfl).1
  obtain ⟨⟨cs51, e53r⟩, hm54⟩ := hp 3 rfl
  have e53 : ρ 23 = .agg cs51.toArray := e53r
  rw [e53r] at hm54
  have hs := hs.memo1 (it := vl t_fold_Store x40 (.agg cs51.toArray)) (List.mem_append.2 (.inl (hm54 _ (List.mem_of_getElem? (i := 0) rfl))))
  have hl52 := hs.agglen (n := 1) 0 rfl rfl rfl
  refine WL.call (vs := [.agg cs33.toArray, .agg cs51.toArray]) hs FN14 ⟨e50, ⟨e53, trivial⟩⟩ (fun ok hA => esref32_Equal.calls (x1 := x32) (x5 := x40) hxx43 (hA.get (Γx.length + 1 + 1) (getApp1 rfl)) (hA.get 0 rfl)) ?_
  rintro _ w hs
  exact WL.nil ⟨rfl, _, rfl, rfl, hs.cutG 0 1⟩ }
  {
  intro ρ w Γx Λx hs hu hp
  have e55 : ρ 24 = .bool x43 := (hp 4 rfl).1
  refine WL.move (v := .bool x43) e55 ?_
  exact WL.nil ⟨rfl, _, rfl, rfl, hs.cutG 0 0⟩ }
  {
  intro ρ w Γx Λx hs hu hp
  have e56 : ρ 25 = .bool x43 := (hp 5 rfl).1
  refine WL.loadAll hs (Λx.length + 2) (getApp rfl) TI29 (hu 5 rfl) hl23 ?_ (hg := (wanted_of rfl rfl (bool_tr e56 hc44)).trans rfl)
  exact WL.nil ⟨rfl, _, rfl, rfl, hs.cutG 0 0⟩ }
  {
  intro ρ w Γx Λx hs hu hp
  have e57 : ρ 25 = .bool x43 := (hp 5 rfl).1
  refine WL.loadN (vs := [.slice a27 (x26.Objects).length c29]) hs (Λx.length + 1) (getApp rfl) TI29 (hu 6 rfl) rfl rfl ?_ (hg := (wanted_of rfl rfl (bool_tr e57 hc44)).trans rfl)
  exact WL.nil ⟨rfl, _, rfl, rfl, hs.cutG 0 0⟩ }
  {
  intro ρ w Γx Λx hs hu hp
  have e58 : ρ 26 = .agg cs22.toArray := (hp 6 rfl).1
  have e59 : ρ 27 = .agg ([.slice a27 (x26.Objects).length c29] : List Value).toArray := (hp 7 rfl).1
  have e60 : ρ 25 = .bool x43 := (hp 5 rfl).1
  have hs := hs.add (it := vl t_fold_Store (⟨x26.Objects⟩ : fold_Store) (.agg [.slice a27 (x26.Objects).length c29].toArray)) fun ok hA => V_agg ((R_one (hA.get (Γx.length + 0) (getApp rfl)))) rfl
  refine WL.call (vs := [.agg cs22.toArray, .agg ([.slice a27 (x26.Objects).length c29] : List Value).toArray]) hs FN14 ⟨e58, ⟨e59, trivial⟩⟩ (fun ok hA => esref32_Equal.calls (x1 := x21) (x5 := (⟨x26.Objects⟩ : fold_Store)) hxx45 (hA.get (Γx.length + 2 + 1) (getApp1 rfl)) (hA.get 0 rfl)) ?_ (hg := (wanted_of rfl rfl (bool_tr e60 hc44)).trans rfl)
  rintro _ w hs
  exact WL.nil ⟨rfl, _, rfl, rfl, hs.cutG 0 1⟩ }
  {
  intro ρ w Γx Λx hs hu hp
  have e61 : ρ 25 = .bool x43 := (hp 5 rfl).1
  have e62 : ρ 28 = .bool x45 := (hp 8 rfl).1
  refine WL.pickT (v := .bool x45) (bool_tr e61 hc44) e62 ?_
  exact WL.nil ⟨rfl, _, rfl, rfl, hs.cutG 0 0⟩ }
  {
  intro ρ w Γx Λx hs hu hp
  have e63 : ρ 29 = .bool x45 := (hp 9 rfl).1
  refine WL.move (v := .bool x45) e63 ?_
  exact WL.nil ⟨rfl, _, rfl, rfl, hs.cutG 0 0⟩ }
  {
  intro ρ w Γx Λx hs hu hp
  have e64 : ρ 30 = .bool x45 := (hp 10 rfl).1
  refine WL.call (vs := []) hs FN12 trivial (fun ok hA => eslaw30_awake.calls hxx47) ?_ (hg := (wanted_of rfl rfl (bool_tr e64 hc46)).trans rfl)
  rintro _ w hs
  exact WL.nil ⟨rfl, _, rfl, rfl, hs.cutG 0 0⟩ }
  {
  intro ρ w Γx Λx hs hu hp
  have e65 : ρ 30 = .bool x45 := (hp 10 rfl).1
  have e66 : ρ 31 = .bool x47 := (hp 11 rfl).1
  refine WL.pickT (v := .bool x47) (bool_tr e65 hc46) e66 ?_
  exact WL.nil ⟨rfl, _, rfl, rfl, hs.cutG 0 0⟩ }
  {
  intro ρ w hs hu67 hp
  obtain ⟨⟨⟨⟨⟨⟨⟨⟨⟨⟨⟨⟨⟨_, hp0_⟩, hp1_⟩, hp2_⟩, hp3_⟩, hp4_⟩, hp5_⟩, hp6_⟩, hp7_⟩, hp8_⟩, hp9_⟩, hp10_⟩, hp11_⟩, hp12_⟩ := hp
  have hs : St ok (bz w0) w [vl t_fold_Store x40 (ρ 23), vl (tSlice t_fold_Object) x26.Objects (.slice a27 (x26.Objects).length c29), vl t_fold_Store x32 (.agg cs33.toArray), vl t_fold_Store x21 (.agg cs22.toArray), vl (tSlice t_api_Update) x17 (.slice a18 x17.length c20), vl (tSlice (tInt .i64)) x1 (.slice a2 x1.length c3), vl t_api_Update x4 (.agg cs6.toArray)] [blk g35 29 cs33, blk g30 29 [.slice a27 (x26.Objects).length c29], blk g24 29 cs22, blk g9 41 cs6] := hs
  have e68 : ρ 32 = .bool x47 := hp12_
  have e69 : ρ 31 = .bool x47 := hp11_
  have e70 : ρ 30 = .bool x45 := hp10_
  have e71 : ρ 29 = .bool x45 := hp9_
  have e72 : ρ 28 = .bool x45 := hp8_
  have e73 : ρ 27 = .agg ([.slice a27 (x26.Objects).length c29] : List Value).toArray := hp7_
  have e74 : ρ 26 = .agg cs22.toArray := hp6_
  have e75 : ρ 25 = .bool x43 := hp5_
  have e76 : ρ 24 = .bool x43 := hp4_
  obtain ⟨cs77, e79⟩ := hp3_
  have e79 : ρ 23 = .agg cs77.toArray := e79
  try rw [e79] at hs
  have e80 : ρ 22 = .agg cs6.toArray := hp2_
  have e81 : ρ 21 = .agg ([.slice a27 (x26.Objects).length c29] : List Value).toArray := hp1_
  have e82 : ρ 20 = .agg cs33.toArray := hp0_
  have hl78 := hs.agglen (n := 1) 0 rfl rfl rfl
  refine WA.step [13] (by kernel_rfl) (by simp) ⟨?_, trivial⟩
  refine WL.assign (v := .bool x47) e68 ?_
  refine WL.nil ⟨rfl, _, rfl, ?_⟩
  refine WA.done (by kernel_rfl) ?_
  exact Jk39 x47 _ _ rfl ((hs.mask []).pick []) hf } }
  {
  refine W.any (by kernel_rfl) 13 1 [true, true, true, true, true, true, true, true, true, true, true, true, true, false] rfl rfl (poAt [pv (.agg cs33.toArray), pv (.agg ([.slice a27 (x26.Objects).length c29] : List Value).toArray), pv (.agg cs6.toArray), pq (fun y : List Value => .agg y.toArray) (fun v => [vl t_fold_Store x40 v]) (fun v => []), pv (.bool x43), pv (.bool x43), pv (.agg cs22.toArray), pv (.agg ([.slice a27 (x26.Objects).length c29] : List Value).toArray), pv (.bool x45), pv (.bool x45), pv (.bool x45), pv (undef), pv (.bool false)]) (Λ := [blk g35 29 cs33, blk g30 29 [.slice a27 (x26.Objects).length c29], blk g24 29 cs22, blk g9 41 cs6]) hs (by kernel_rfl) (by kernel_rfl) (by kernel_rfl) ⟨⟨⟨⟨⟨⟨⟨⟨⟨⟨⟨⟨⟨trivial, ?_⟩, ?_⟩, ?_⟩, ?_⟩, ?_⟩, ?_⟩, ?_⟩, ?_⟩, ?_⟩, ?_⟩, ?_⟩, ?_⟩, ?_⟩ ?_
  {
  intro ρ w Γx Λx hs hu hp
  refine WL.loadAll hs (Λx.length + 0) (getApp rfl) TI29 (hu 7 rfl) hl34 ?_
  exact WL.nil ⟨rfl, _, rfl, rfl, hs.cutG 0 0⟩ }
  {
  intro ρ w Γx Λx hs hu hp
  refine WL.loadN (vs := [.slice a27 (x26.Objects).length c29]) hs (Λx.length + 1) (getApp rfl) TI29 (hu 6 rfl) rfl rfl ?_
  exact WL.nil ⟨rfl, _, rfl, rfl, hs.cutG 0 0⟩ }
  {
  intro ρ w Γx Λx hs hu hp
  refine WL.loadAll hs (Λx.length + 3) (getApp rfl) TI41 (hu 3 rfl) hl7 ?_
  exact WL.nil ⟨rfl, _, rfl, rfl, hs.cutG 0 0⟩ }
  {
  intro ρ w Γx Λx hs hu hp
  have e83 : ρ 21 = .agg ([.slice a27 (x26.Objects).length c29] : List Value).toArray := (hp 1 rfl).1
  have e84 : ρ 22 = .agg cs6.toArray := (hp 2 rfl).1
  have hs := hs.add (it := vl t_fold_Store (⟨x26.Objects⟩ : fold_Store) (.agg [.slice a27 (x26.Objects).length c29].toArray)) fun ok hA => V_agg ((R_one (hA.get (Γx.length + 0) (getApp rfl)))) rfl
  refine WL.call (vs := [.agg ([.slice a27 (x26.Objects).length c29] : List Value).toArray, .agg cs6.toArray]) hs FN23 ⟨e83, ⟨e84, trivial⟩⟩ (fun ok hA => esref32_Apply.calls (x1 := (⟨x26.Objects⟩ : fold_Store)) (x2 := x4) hxx40 (hA.get 0 rfl) (hA.get (Γx.length + 5 + 1) (getApp1 rfl))) ?_
  rintro cs41 w hs
  have hl42 := hs.agglen (n := 1) 0 rfl rfl rfl
  have hs := hs.add (it := vl t_fold_Store x40 (.agg cs41.toArray)) fun ok hA => hA.get 0 rfl
  exact WL.nil ⟨rfl, _, rfl, ⟨cs41, rfl⟩, hs.cutG 1 2⟩ }
  {
  intro ρ w Γx Λx hs hu hp
  have e85 : ρ 20 = .agg cs33.toArray := (hp 0 rfl).1
  obtain ⟨⟨cs86, e88r⟩, hm89⟩ := hp 3 rfl
  have e88 : ρ 23 = .agg cs86.toArray := e88r
  rw [e88r] at hm89
  have hs := hs.memo1 (it := vl t_fold_Store x40 (.agg cs86.toArray)) (List.mem_append.2 (.inl (hm89 _ (List.mem_of_getElem? (i := 0) rfl))))
  have hl87 := hs.agglen (n := 1) 0 rfl rfl rfl
  refine WL.call (vs := [.agg cs33.toArray, .agg cs86.toArray]) hs FN14 ⟨e85, ⟨e88, trivial⟩⟩ (fun ok hA => esref32_Equal.calls (x1 := x32) (x5 := x40) hxx43 (hA.get (Γx.length + 1 + 1) (getApp1 rfl)) (hA.get 0 rfl)) ?_
  rintro _ w hs
  exact WL.nil ⟨rfl, _, rfl, rfl, hs.cutG 0 1⟩ }
  {
  intro ρ w Γx Λx hs hu hp
  have e90 : ρ 24 = .bool x43 := (hp 4 rfl).1
  refine WL.move (v := .bool x43) e90 ?_
  exact WL.nil ⟨rfl, _, rfl, rfl, hs.cutG 0 0⟩ }
  {
  intro ρ w Γx Λx hs hu hp
  have e91 : ρ 25 = .bool x43 := (hp 5 rfl).1
  refine WL.loadAll hs (Λx.length + 2) (getApp rfl) TI29 (hu 5 rfl) hl23 ?_ (hg := (wanted_of rfl rfl (bool_tr e91 hc44)).trans rfl)
  exact WL.nil ⟨rfl, _, rfl, rfl, hs.cutG 0 0⟩ }
  {
  intro ρ w Γx Λx hs hu hp
  have e92 : ρ 25 = .bool x43 := (hp 5 rfl).1
  refine WL.loadN (vs := [.slice a27 (x26.Objects).length c29]) hs (Λx.length + 1) (getApp rfl) TI29 (hu 6 rfl) rfl rfl ?_ (hg := (wanted_of rfl rfl (bool_tr e92 hc44)).trans rfl)
  exact WL.nil ⟨rfl, _, rfl, rfl, hs.cutG 0 0⟩ }
  {
  intro ρ w Γx Λx hs hu hp
  have e93 : ρ 26 = .agg cs22.toArray := (hp 6 rfl).1
  have e94 : ρ 27 = .agg ([.slice a27 (x26.Objects).length c29] : List Value).toArray := (hp 7 rfl).1
  have e95 : ρ 25 = .bool x43 := (hp 5 rfl).1
  have hs := hs.add (it := vl t_fold_Store (⟨x26.Objects⟩ : fold_Store) (.agg [.slice a27 (x26.Objects).length c29].toArray)) fun ok hA => V_agg ((R_one (hA.get (Γx.length + 0) (getApp rfl)))) rfl
  refine WL.call (vs := [.agg cs22.toArray, .agg ([.slice a27 (x26.Objects).length c29] : List Value).toArray]) hs FN14 ⟨e93, ⟨e94, trivial⟩⟩ (fun ok hA => esref32_Equal.calls (x1 := x21) (x5 := (⟨x26.Objects⟩ : fold_Store)) hxx45 (hA.get (Γx.length + 2 + 1) (getApp1 rfl)) (hA.get 0 rfl)) ?_ (hg := (wanted_of rfl rfl (bool_tr e95 hc44)).trans rfl)
  rintro _ w hs
  exact WL.nil ⟨rfl, _, rfl, rfl, hs.cutG 0 1⟩ }
  {
  intro ρ w Γx Λx hs hu hp
  have e96 : ρ 25 = .bool x43 := (hp 5 rfl).1
  have e97 : ρ 28 = .bool x45 := (hp 8 rfl).1
  refine WL.pickT (v := .bool x45) (bool_tr e96 hc44) e97 ?_
  exact WL.nil ⟨rfl, _, rfl, rfl, hs.cutG 0 0⟩ }
  {
  intro ρ w Γx Λx hs hu hp
  have e98 : ρ 29 = .bool x45 := (hp 9 rfl).1
  refine WL.move (v := .bool x45) e98 ?_
  exact WL.nil ⟨rfl, _, rfl, rfl, hs.cutG 0 0⟩ }
  {
  intro ρ w Γx Λx hs hu hp
  have e99 : ρ 30 = .bool x45 := (hp 10 rfl).1
  refine WL.pass ((wanted_of rfl rfl (bool_tr e99 hc46)).trans rfl) rfl ?_
  exact WL.nil ⟨rfl, _, rfl, rfl, hs.cutG 0 0⟩ }
  {
  intro ρ w Γx Λx hs hu hp
  have e100 : ρ 30 = .bool x45 := (hp 10 rfl).1
  have e101 : ρ 31 = undef := (hp 11 rfl).1
  refine WL.pickF (v := .bool false) (bool_tr e100 hc46) rfl ?_
  exact WL.nil ⟨rfl, _, rfl, rfl, hs.cutG 0 0⟩ }
  {
  intro ρ w hs hu102 hp
  obtain ⟨⟨⟨⟨⟨⟨⟨⟨⟨⟨⟨⟨⟨_, hp0_⟩, hp1_⟩, hp2_⟩, hp3_⟩, hp4_⟩, hp5_⟩, hp6_⟩, hp7_⟩, hp8_⟩, hp9_⟩, hp10_⟩, hp11_⟩, hp12_⟩ := hp
  have hs : St ok (bz w0) w [vl t_fold_Store x40 (ρ 23), vl (tSlice t_fold_Object) x26.Objects (.slice a27 (x26.Objects).length c29), vl t_fold_Store x32 (.agg cs33.toArray), vl t_fold_Store x21 (.agg cs22.toArray), vl (tSlice t_api_Update) x17 (.slice a18 x17.length c20), vl (tSlice (tInt .i64)) x1 (.slice a2 x1.length c3), vl t_api_Update x4 (.agg cs6.toArray)] [blk g35 29 cs33, blk g30 29 [.slice a27 (x26.Objects).length c29], blk g24 29 cs22, blk g9 41 cs6] := hs
  have e103 : ρ 32 = .bool false := hp12_
  have e104 : ρ 31 = undef := hp11_
  have e105 : ρ 30 = .bool x45 := hp10_
  have e106 : ρ 29 = .bool x45 := hp9_
  have e107 : ρ 28 = .bool x45 := hp8_
  have e108 : ρ 27 = .agg ([.slice a27 (x26.Objects).length c29] : List Value).toArray := hp7_
  have e109 : ρ 26 = .agg cs22.toArray := hp6_
  have e110 : ρ 25 = .bool x43 := hp5_
  have e111 : ρ 24 = .bool x43 := hp4_
  obtain ⟨cs112, e114⟩ := hp3_
  have e114 : ρ 23 = .agg cs112.toArray := e114
  try rw [e114] at hs
  have e115 : ρ 22 = .agg cs6.toArray := hp2_
  have e116 : ρ 21 = .agg ([.slice a27 (x26.Objects).length c29] : List Value).toArray := hp1_
  have e117 : ρ 20 = .agg cs33.toArray := hp0_
  have hl113 := hs.agglen (n := 1) 0 rfl rfl rfl
  refine WA.step [13] (by kernel_rfl) (by simp) ⟨?_, trivial⟩
  refine WL.assign (v := .bool false) e103 ?_
  refine WL.nil ⟨rfl, _, rfl, ?_⟩
  refine WA.done (by kernel_rfl) ?_
  exact Jk39 false _ _ rfl ((hs.mask []).pick []) hf } } }
  {
  refine W.any (by kernel_rfl) 13 1 [true, true, true, true, true, true, true, true, true, true, true, true, true, false] rfl rfl (poAt [pv (.agg cs33.toArray), pv (.agg ([.slice a27 (x26.Objects).length c29] : List Value).toArray), pv (.agg cs6.toArray), pq (fun y : List Value => .agg y.toArray) (fun v => [vl t_fold_Store x40 v]) (fun v => []), pv (.bool x43), pv (.bool x43), pv (undef), pv (undef), pv (undef), pv (.bool false), pv (.bool false), pv (undef), pv (.bool false)]) (Λ := [blk g35 29 cs33, blk g30 29 [.slice a27 (x26.Objects).length c29], blk g24 29 cs22, blk g9 41 cs6]) hs (by kernel_rfl) (by kernel_rfl) (by kernel_rfl) ⟨⟨⟨⟨⟨⟨⟨⟨⟨⟨⟨⟨⟨trivial, ?_⟩, ?_⟩, ?_⟩, ?_⟩, ?_⟩, ?_⟩, ?_⟩, ?_⟩, ?_⟩, ?_⟩, ?_⟩, ?_⟩, ?_⟩ ?_
  {
  intro ρ w Γx Λx hs hu hp
  refine WL.loadAll hs (Λx.length + 0) (getApp rfl) TI29 (hu 7 rfl) hl34 ?_
  exact WL.nil ⟨rfl, _, rfl, rfl, hs.cutG 0 0⟩ }
  {
  intro ρ w Γx Λx hs hu hp
  refine WL.loadN (vs := [.slice a27 (x26.Objects).length c29]) hs (Λx.length + 1) (getApp rfl) TI29 (hu 6 rfl) rfl rfl ?_
  exact WL.nil ⟨rfl, _, rfl, rfl, hs.cutG 0 0⟩ }
  {
  intro ρ w Γx Λx hs hu hp
  refine WL.loadAll hs (Λx.length + 3) (getApp rfl) TI41 (hu 3 rfl) hl7 ?_
  exact WL.nil ⟨rfl, _, rfl, rfl, hs.cutG 0 0⟩ }
  {
  intro ρ w Γx Λx hs hu hp
  have e118 : ρ 21 = .agg ([.slice a27 (x26.Objects).length c29] : List Value).toArray := (hp 1 rfl).1
  have e119 : ρ 22 = .agg cs6.toArray := (hp 2 rfl).1
  have hs := hs.add (it := vl t_fold_Store (⟨x26.Objects⟩ : fold_Store) (.agg [.slice a27 (x26.Objects).length c29].toArray)) fun ok hA => V_agg ((R_one (hA.get (Γx.length + 0) (getApp rfl)))) rfl
  refine WL.call (vs := [.agg ([.slice a27 (x26.Objects).length c29] : List Value).toArray, .agg cs6.toArray]) hs FN23 ⟨e118, ⟨e119, trivial⟩⟩ (fun ok hA => esref32_Apply.calls (x1 := (⟨x26.Objects⟩ : fold_Store)) (x2 := x4) hxx40 (hA.get 0 rfl) (hA.get (Γx.length + 5 + 1) (getApp1 rfl))) ?_
  rintro cs41 w hs
  have hl42 := hs.agglen (n := 1) 0 rfl rfl rfl
  have hs := hs.add (it := vl t_fold_Store x40 (.agg cs41.toArray)) fun ok hA => hA.get 0 rfl
  exact WL.nil ⟨rfl, _, rfl, ⟨cs41, rfl⟩, hs.cutG 1 2⟩ }
  {
  intro ρ w Γx Λx hs hu hp
  have e120 : ρ 20 = .agg cs33.toArray := (hp 0 rfl).1
  obtain ⟨⟨cs121, e123r⟩, hm124⟩ := hp 3 rfl
  have e123 : ρ 23 = .agg cs121.toArray := e123r
  rw [e123r] at hm124
  have hs := hs.memo1 (it := vl t_fold_Store x40 (.agg cs121.toArray)) (List.mem_append.2 (.inl (hm124 _ (List.mem_of_getElem? (i := 0) rfl))))
  have hl122 := hs.agglen (n := 1) 0 rfl rfl rfl
  refine WL.call (vs := [.agg cs33.toArray, .agg cs121.toArray]) hs FN14 ⟨e120, ⟨e123, trivial⟩⟩ (fun ok hA => esref32_Equal.calls (x1 := x32) (x5 := x40) hxx43 (hA.get (Γx.length + 1 + 1) (getApp1 rfl)) (hA.get 0 rfl)) ?_
  rintro _ w hs
  exact WL.nil ⟨rfl, _, rfl, rfl, hs.cutG 0 1⟩ }
  {
  intro ρ w Γx Λx hs hu hp
  have e125 : ρ 24 = .bool x43 := (hp 4 rfl).1
  refine WL.move (v := .bool x43) e125 ?_
  exact WL.nil ⟨rfl, _, rfl, rfl, hs.cutG 0 0⟩ }
  {
  intro ρ w Γx Λx hs hu hp
  have e126 : ρ 25 = .bool x43 := (hp 5 rfl).1
  refine WL.pass ((wanted_of rfl rfl (bool_tr e126 hc44)).trans rfl) rfl ?_
  exact WL.nil ⟨rfl, _, rfl, rfl, hs.cutG 0 0⟩ }
  {
  intro ρ w Γx Λx hs hu hp
  have e127 : ρ 25 = .bool x43 := (hp 5 rfl).1
  refine WL.pass ((wanted_of rfl rfl (bool_tr e127 hc44)).trans rfl) rfl ?_
  exact WL.nil ⟨rfl, _, rfl, rfl, hs.cutG 0 0⟩ }
  {
  intro ρ w Γx Λx hs hu hp
  have e128 : ρ 26 = undef := (hp 6 rfl).1
  have e129 : ρ 27 = undef := (hp 7 rfl).1
  have e130 : ρ 25 = .bool x43 := (hp 5 rfl).1
  refine WL.pass ((wanted_of rfl rfl (bool_tr e130 hc44)).trans rfl) rfl ?_
  exact WL.nil ⟨rfl, _, rfl, rfl, hs.cutG 0 0⟩ }
  {
  intro ρ w Γx Λx hs hu hp
  have e131 : ρ 25 = .bool x43 := (hp 5 rfl).1
  have e132 : ρ 28 = undef := (hp 8 rfl).1
  refine WL.pickF (v := .bool false) (bool_tr e131 hc44) rfl ?_
  exact WL.nil ⟨rfl, _, rfl, rfl, hs.cutG 0 0⟩ }
  {
  intro ρ w Γx Λx hs hu hp
  have e133 : ρ 29 = .bool false := (hp 9 rfl).1
  refine WL.move (v := .bool false) e133 ?_
  exact WL.nil ⟨rfl, _, rfl, rfl, hs.cutG 0 0⟩ }
  {
  intro ρ w Γx Λx hs hu hp
  have e134 : ρ 30 = .bool false := (hp 10 rfl).1
  refine WL.pass ((wanted_of rfl rfl e134).trans rfl) rfl ?_
  exact WL.nil ⟨rfl, _, rfl, rfl, hs.cutG 0 0⟩ }
  {
  intro ρ w Γx Λx hs hu hp
  have e135 : ρ 30 = .bool false := (hp 10 rfl).1
  have e136 : ρ 31 = undef := (hp 11 rfl).1
  refine WL.pickF (v := .bool false) e135 rfl ?_
  exact WL.nil ⟨rfl, _, rfl, rfl, hs.cutG 0 0⟩ }
  {
  intro ρ w hs hu137 hp
  obtain ⟨⟨⟨⟨⟨⟨⟨⟨⟨⟨⟨⟨⟨_, hp0_⟩, hp1_⟩, hp2_⟩, hp3_⟩, hp4_⟩, hp5_⟩, hp6_⟩, hp7_⟩, hp8_⟩, hp9_⟩, hp10_⟩, hp11_⟩, hp12_⟩ := hp
  have hs : St ok (bz w0) w [vl t_fold_Store x40 (ρ 23), vl (tSlice t_fold_Object) x26.Objects (.slice a27 (x26.Objects).length c29), vl t_fold_Store x32 (.agg cs33.toArray), vl t_fold_Store x21 (.agg cs22.toArray), vl (tSlice t_api_Update) x17 (.slice a18 x17.length c20), vl (tSlice (tInt .i64)) x1 (.slice a2 x1.length c3), vl t_api_Update x4 (.agg cs6.toArray)] [blk g35 29 cs33, blk g30 29 [.slice a27 (x26.Objects).length c29], blk g24 29 cs22, blk g9 41 cs6] := hs
  have e138 : ρ 32 = .bool false := hp12_
  have e139 : ρ 31 = undef := hp11_
  have e140 : ρ 30 = .bool false := hp10_
  have e141 : ρ 29 = .bool false := hp9_
  have e142 : ρ 28 = undef := hp8_
  have e143 : ρ 27 = undef := hp7_
  have e144 : ρ 26 = undef := hp6_
  have e145 : ρ 25 = .bool x43 := hp5_
  have e146 : ρ 24 = .bool x43 := hp4_
  obtain ⟨cs147, e149⟩ := hp3_
  have e149 : ρ 23 = .agg cs147.toArray := e149
  try rw [e149] at hs
  have e150 : ρ 22 = .agg cs6.toArray := hp2_
  have e151 : ρ 21 = .agg ([.slice a27 (x26.Objects).length c29] : List Value).toArray := hp1_
  have e152 : ρ 20 = .agg cs33.toArray := hp0_
  have hl148 := hs.agglen (n := 1) 0 rfl rfl rfl
  refine WA.step [13] (by kernel_rfl) (by simp) ⟨?_, trivial⟩
  refine WL.assign (v := .bool false) e138 ?_
  refine WL.nil ⟨rfl, _, rfl, ?_⟩
  refine WA.done (by kernel_rfl) ?_
  exact Jk39 false _ _ rfl ((hs.mask []).pick []) hf } } }
end Go.Proofs.Ytlbcfjblpopcnaa
set_option linter.unusedVariables false
set_option linter.unusedSimpArgs false
namespace Go.Proofs.Ytlbcfjblpopcnaa
open Go Go.Proofs.YtlbcfjblpopcnaaL
theorem Index_ex (n k : Int) (h1 : 1 ≤ k) (h2 : k ≤ 4611686018427387904) : ∃ d, eslaw00_Index n k = some d ∧ 0 ≤ d ∧ d < k := by
  unfold eslaw00_Index
  rw [if_neg (by simp; omega), if_pos (by omega)]
  have e1 : Int.tmod n k < k := Int.tmod_lt_of_pos _ (by omega)
  have e2 : -k < Int.tmod n k := by
    have : Int.tmod (-n) k < k := Int.tmod_lt_of_pos _ (by omega)
    rw [Int.neg_tmod] at this
    omega
  simp only [letV_of]
  rw [w64 (by omega) (by omega), if_pos (by omega)]
  exact ⟨_, rfl, Int.tmod_nonneg _ (by omega), Int.tmod_lt_of_pos _ (by omega)⟩
theorem Digit_ex (n b : Int) (i : Nat) (h1 : 2 ≤ b) (h2 : b ≤ 16) (hi : i ≤ 100000) : ∃ d, eslaw00_Digit n b (i : Int) = some d ∧ 0 ≤ d ∧ d < b := by
  obtain ⟨x, hx, hx0, hx1⟩ := Index_ex n 1099511627776 (by decide) (by decide)
  unfold eslaw00_Digit
  rw [hx]
  simp only [Option.bind_some]
  have key : ∃ r, loopO (eslaw00_Digit.l1 b (i : Int)) (x, 0) = some r ∧ 0 ≤ r := by
    refine loopO_inv (fun k s => ∃ y : Int, s = (y, (k : Int)) ∧ 0 ≤ y ∧ y < 1099511627776) i ⟨x, rfl, hx0, hx1⟩ (fun k s hk hI => ?_) (fun s hI => ?_)
    · obtain ⟨y, rfl, h3, h4⟩ := hI
      simp only [eslaw00_Digit.l1]
      rw [if_pos (by simpa using hk), if_pos (by omega)]
      have h5 : 0 ≤ Int.tdiv y b := Int.tdiv_nonneg h3 (by omega)
      have h6 : Int.tdiv y b ≤ y := by
        rw [Int.tdiv_eq_ediv_of_nonneg h3]
        exact Int.ediv_le_self _ h3
      simp only [letV_of]
      rw [w64 (x := Int.tdiv y b) (by omega) (by omega), wcast hk (by omega)]
      exact ⟨_, rfl, _, rfl, h5, by omega⟩
    · obtain ⟨y, rfl, h3, h4⟩ := hI
      simp only [eslaw00_Digit.l1]
      rw [if_neg (by simp)]
      exact ⟨_, rfl, h3⟩
  obtain ⟨r, hr, hr0⟩ := key
  rw [hr]
  simp only [Option.bind_some, eslaw00_Digit.j1]
  rw [if_pos (by omega)]
  exact ⟨_, rfl, Int.tmod_nonneg _ hr0, Int.tmod_lt_of_pos _ (by omega)⟩
theorem name_ex (d : Int) : ∃ s, eslaw00_name d = some s ∧ s.length ≤ 2 ∧ s ≠ [] := by
  unfold eslaw00_name
  obtain ⟨x, hx, h0, h1⟩ := Index_ex d 4 (by decide) (by decide)
  rw [hx, Option.bind_some]
  have : x = 0 ∨ x = 1 ∨ x = 2 ∨ x = 3 := by omega
  rcases this with rfl | rfl | rfl | rfl
  · exact ⟨[97], rfl, by decide, by decide⟩
  · exact ⟨[98], rfl, by decide, by decide⟩
  · exact ⟨[99], rfl, by decide, by decide⟩
  · exact ⟨[120, 49], rfl, by decide, by decide⟩
end Go.Proofs.Ytlbcfjblpopcnaa
set_option linter.unusedVariables false
set_option linter.unusedSimpArgs false
namespace Go.Proofs.Ytlbcfjblpopcnaa
open Go Go.Proofs.YtlbcfjblpopcnaaL
structure GD (n : Nat) (objs : List fold_Object) : Prop where
  asc : SA ON_ objs
  len : objs.length ≤ n
  name : ∀ o ∈ objs, o.Name.length ≤ 1000
  ne : ∀ o ∈ objs, o.Fields ≠ []
  fasc : ∀ o ∈ objs, SA FN_ o.Fields
  flen : ∀ o ∈ objs, o.Fields.length ≤ n
  good : ∀ o ∈ objs, ∀ y ∈ o.Fields, GF n y
theorem GD.mono {n m : Nat} {objs : List fold_Object} (h : GD n objs) (hm : n ≤ m) : GD m objs :=
  ⟨h.asc, Nat.le_trans h.len hm, h.name, h.ne, h.fasc, fun o ho => Nat.le_trans (h.flen o ho) hm, fun o ho y hy => (h.good o ho y hy).mono hm⟩
theorem GD_nil (n : Nat) : GD n [] := ⟨List.Pairwise.nil, Nat.zero_le _, by simp, by simp, by simp, by simp, by simp⟩
def appT (u : api_Update) (objs : List fold_Object) : List fold_Object := u.Effects.foldl (effT u) objs
def foldT (s : List api_Update) (objs : List fold_Object) : List fold_Object := s.foldl (fun o u => appT u o) objs
theorem apply_ex {u : api_Update} {n : Nat} {x : fold_B} (h : BI n x) (he : ∀ e ∈ u.Effects, EF e) (hn : n + u.Effects.length ≤ 1000000) :
    ∃ x', fold_apply u x = some x' ∧ BI (n + u.Effects.length) x' ∧ canonB x' = appT u (canonB x) := by
  unfold fold_apply
  refine loopO_inv (I := fun k s => s.1 = (k : Int) ∧ BI (n + k) s.2 ∧ canonB s.2 = (u.Effects.take k).foldl (effT u) (canonB x)) u.Effects.length ⟨rfl, h, rfl⟩ ?_ ?_
  · rintro k ⟨i, y⟩ hk ⟨hi, h1, h2⟩
    simp only at hi h1 h2
    subst hi
    obtain ⟨x', e1, e2, e3⟩ := eff_eq (u := u) h1 (he _ (List.getElem_mem hk)) (by omega)
    refine ⟨(((k + 1 : Nat) : Int), x'), ?_, rfl, e2, ?_⟩
    · unfold fold_apply.l1
      simp only [lt_of_len hk, if_true, idx_nat hk, Option.bind_some, e1, letV, wcast hk (by omega)]
    · rw [take_snoc hk, List.foldl_append, ← h2, e3]
      rfl
  · rintro ⟨i, y⟩ ⟨hi, h1, h2⟩
    simp only at hi h1 h2
    subst hi
    rw [List.take_length] at h2
    refine ⟨y, ?_, h1, h2⟩
    unfold fold_apply.l1
    simp only [not_lt_len, Bool.false_eq_true, if_false]
theorem clone_eq {l : List (List UInt8)} (h : l.length ≤ 1000000) : slices_Clone_string l = some l := by
  unfold slices_Clone_string
  rw [app_of (by simp; omega)]
  rfl
theorem names_ne {α : Type} {key : α → List UInt8} {l : List α} (h : SA key l) : (l.map key).Nodup := by
  refine List.pairwise_map.2 (h.imp fun {a b} hab e => ?_)
  rw [e, bl_irrefl] at hab
  cases hab
def loaded (objs : List fold_Object) : fold_B := objs.map fun o => (o.Name, o.Fields)
theorem load_fields {n : Nat} {o : fold_Object} (h1 : SA FN_ o.Fields) (h2 : o.Fields.length ≤ n) (h3 : ∀ y ∈ o.Fields, GF n y) (hn : n ≤ 1000000) : loopO (fold_load.l1 o) (0, []) = some o.Fields := by
  have := loopO_up (step := fold_load.l1 o) (fun k => ((k : Int), o.Fields.take k)) o.Fields.length (b := o.Fields) (fun k hk => ?_) ?_
  · exact this
  · have hg := h3 _ (List.getElem_mem hk)
    unfold fold_load.l1
    simp only [lt_of_len hk, if_true, idx_nat hk, Option.bind_some]
    rw [clone_eq (by have := hg.len; omega), Option.bind_some, letV, wcast hk (by omega)]
    have e : fput fold_Field.Name o.Fields[k] (o.Fields.take k) = o.Fields.take (k + 1) := by
      rw [take_snoc hk, fput_none]
      rw [List.find?_eq_none]
      intro y hy
      obtain ⟨j, hj, rfl⟩ := List.getElem_of_mem hy
      rw [List.length_take] at hj
      have := List.pairwise_iff_getElem.1 h1 j k (by omega) hk (by omega)
      rw [List.getElem_take]
      intro he
      have he : o.Fields[k].Name = (o.Fields[j]'(by omega)).Name := by simpa using he
      have this : Op.bytesLess (o.Fields[j]'(by omega)).Name o.Fields[k].Name = true := this
      rw [he, bl_irrefl] at this
      cases this
    rw [show ({ o.Fields[k] with Elems := o.Fields[k].Elems } : fold_Field) = o.Fields[k] from rfl, e]
  · unfold fold_load.l1
    simp only [not_lt_len, Bool.false_eq_true, if_false, List.take_length]
theorem load_eq {n : Nat} {t : fold_Store} (h : GD n t.Objects) (hn : n ≤ 1000000) : fold_load t = some (loaded t.Objects) := by
  unfold fold_load
  have hlen := h.len
  have := loopO_up (step := fold_load.l2 t) (fun k => ((k : Int), loaded (t.Objects.take k))) t.Objects.length (b := loaded t.Objects) (fun k hk => ?_) ?_
  · exact this
  · have hm := List.getElem_mem hk
    unfold fold_load.l2
    simp only [lt_of_len hk, if_true, idx_nat hk, Option.bind_some]
    rw [load_fields (h.fasc _ hm) (h.flen _ hm) (h.good _ hm) hn, Option.bind_some, letV, wcast hk (by omega)]
    have e : mset (loaded (t.Objects.take k)) t.Objects[k].Name t.Objects[k].Fields = loaded (t.Objects.take (k + 1)) := by
      unfold loaded
      rw [take_snoc hk, List.map_append, mset_none]
      · rfl
      · cases hl : (List.map (fun o : fold_Object => (o.Name, o.Fields)) (List.take k t.Objects)).lookup t.Objects[k].Name with
        | none => rfl
        | some fs =>
          exfalso
          obtain ⟨o, ho, he⟩ := List.mem_map.1 (lookup_mem hl)
          have he : o.Name = t.Objects[k].Name := congrArg Prod.fst he
          obtain ⟨j, hj, rfl⟩ := List.getElem_of_mem ho
          rw [List.length_take] at hj
          have := List.pairwise_iff_getElem.1 h.asc j k (by omega) hk (by omega)
          rw [List.getElem_take] at he
          have this : Op.bytesLess (t.Objects[j]'(by omega)).Name t.Objects[k].Name = true := this
          rw [he, bl_irrefl] at this
          cases this
    rw [e]
  · unfold fold_load.l2
    simp only [not_lt_len, Bool.false_eq_true, if_false, List.take_length]
theorem BI_loaded {n : Nat} {objs : List fold_Object} (h : GD n objs) : BI n (loaded objs) := by
  have hm : ∀ o ∈ loaded objs, ∃ p ∈ objs, o = (p.Name, p.Fields) := fun o ho => by
    obtain ⟨p, hp, rfl⟩ := List.mem_map.1 ho
    exact ⟨p, hp, rfl⟩
  refine ⟨?_, by unfold loaded; rw [List.length_map]; exact h.len, fun o ho => ?_, fun o ho => ?_, fun o ho => ?_, fun o ho => ?_, fun o ho => ?_⟩
  · unfold loaded
    rw [List.map_map]
    exact names_ne h.asc
  all_goals obtain ⟨p, hp, rfl⟩ := hm o ho
  · exact h.name p hp
  · exact h.ne p hp
  · exact names_ne (h.fasc p hp)
  · exact h.flen p hp
  · exact h.good p hp
theorem canonF_self {fs : List fold_Field} (h : SA FN_ fs) : canonF fs = fs := SA_ext (SA_canonF (names_ne h)) h fun k => get_canonF fs k
theorem loaded_lookup (objs : List fold_Object) (k : List UInt8) : (loaded objs).lookup k = (get ON_ objs k).map (·.Fields) := by
  induction objs with
  | nil => rfl
  | cons a objs ih =>
    unfold loaded at ih ⊢
    rw [List.map_cons, List.lookup_cons, get_cons]
    by_cases h : ON_ a = k
    · rw [if_pos h, show (k == a.Name) = true by rw [← h]; simp]
      rfl
    · rw [if_neg h, show (k == a.Name) = false by rw [beq_eq_false_iff_ne]; exact fun e => h e.symm]
      exact ih
theorem canon_loaded {n : Nat} {objs : List fold_Object} (h : GD n objs) : canonB (loaded objs) = objs := by
  refine SA_ext (SA_canonB (BI_loaded h).keys) h.asc fun k => ?_
  rw [get_canonB, loaded_lookup]
  cases hg : get ON_ objs k with
  | none => rfl
  | some o =>
    show some (⟨k, canonF o.Fields⟩ : fold_Object) = some o
    rw [canonF_self (h.fasc o (get_mem hg)), ← get_key hg]
theorem canonF_mem {fs : List fold_Field} {y : fold_Field} (h : y ∈ canonF fs) : y ∈ fs := by
  unfold canonF at h
  obtain ⟨n, hn, rfl⟩ := List.mem_map.1 h
  rw [mem_srt, get_names] at hn
  cases hg : get FN_ fs n with
  | none => rw [hg] at hn; cases hn
  | some y => exact get_mem hg
theorem GD_canon {n : Nat} {x : fold_B} (h : BI n x) : GD n (canonB x) := by
  have hm : ∀ o ∈ canonB x, ∃ fs, (o.Name, fs) ∈ x ∧ o.Fields = canonF fs := by
    intro o ho
    have hg := get_mem_self (SA_canonB h.keys) ho
    rw [get_canonB] at hg
    cases hl : x.lookup (ON_ o) with
    | none => rw [hl] at hg; cases hg
    | some fs =>
      rw [hl] at hg
      have := Option.some.inj hg
      exact ⟨fs, lookup_mem hl, by rw [← this]⟩
  refine ⟨SA_canonB h.keys, ?_, fun o ho => ?_, fun o ho => ?_, fun o ho => ?_, fun o ho => ?_, fun o ho y hy => ?_⟩
  · unfold canonB
    rw [List.length_map, List.length_mergeSort, List.length_map]
    exact h.len
  all_goals obtain ⟨fs, h1, h2⟩ := hm o ho
  · exact h.name _ h1
  · rw [h2]
    intro he
    have := congrArg List.length he
    unfold canonF at this
    rw [List.length_map, List.length_mergeSort, List.length_map] at this
    exact h.ne _ h1 (List.length_eq_zero_iff.1 this)
  · rw [h2]; exact SA_canonF (h.names _ h1)
  · rw [h2]
    unfold canonF
    rw [List.length_map, List.length_mergeSort, List.length_map]
    exact h.flen _ h1
  · rw [h2] at hy
    exact h.good _ h1 y (canonF_mem hy)
theorem Apply_eq {n : Nat} {t : fold_Store} {u : api_Update} (h : GD n t.Objects) (he : ∀ e ∈ u.Effects, EF e) (hn : n + u.Effects.length ≤ 1000000) :
    fold_Apply t u = some ⟨appT u t.Objects⟩ ∧ GD (n + u.Effects.length) (appT u t.Objects) := by
  unfold fold_Apply
  obtain ⟨x', e1, e2, e3⟩ := apply_ex (u := u) (BI_loaded h) he hn
  rw [canon_loaded h] at e3
  rw [load_eq h (by omega), Option.bind_some, e1, Option.bind_some, fold_store_eq e2 hn, e3]
  exact ⟨rfl, e3 ▸ GD_canon e2⟩
end Go.Proofs.Ytlbcfjblpopcnaa
set_option linter.unusedVariables false
set_option linter.unusedSimpArgs false
namespace Go.Proofs.Ytlbcfjblpopcnaa
open Go Go.Proofs.YtlbcfjblpopcnaaL
def effN (s : List api_Update) : Nat := (s.map fun u => u.Effects.length).sum
theorem Fold_eq {s : List api_Update} (he : ∀ u ∈ s, ∀ e ∈ u.Effects, EF e) (hn : effN s ≤ 1000000) (hl : s.length ≤ 1000000) :
    fold_Fold s = some ⟨foldT s []⟩ ∧ GD (effN s) (foldT s []) := by
  unfold fold_Fold
  have key : ∃ b, loopO (fold_Fold.l1 s) (0, []) = some b ∧ BI (effN s) b ∧ canonB b = foldT s [] := by
    have hsum : ∀ k, k ≤ s.length → effN (s.take k) ≤ effN s := by
      intro k hk
      unfold effN
      have : s.map (fun u => u.Effects.length) = (s.take k).map (fun u => u.Effects.length) ++ (s.drop k).map (fun u => u.Effects.length) := by rw [← List.map_append, List.take_append_drop]
      rw [this, List.sum_append]
      omega
    refine loopO_inv (I := fun k s' => s'.1 = (k : Int) ∧ BI (effN (s.take k)) s'.2 ∧ canonB s'.2 = foldT (s.take k) []) s.length ⟨rfl, ?_, ?_⟩ ?_ ?_
    · exact ⟨List.nodup_nil, Nat.zero_le _, by simp, by simp, by simp, by simp, by simp⟩
    · simp [canonB, srtN, foldT]
    · rintro k ⟨i, y⟩ hk ⟨hi, h1, h2⟩
      simp only at hi h1 h2
      subst hi
      have hs := hsum (k + 1) hk
      have es : effN (s.take (k + 1)) = effN (s.take k) + s[k].Effects.length := by
        unfold effN
        rw [take_snoc hk, List.map_append, List.sum_append]
        simp
      obtain ⟨x', e1, e2, e3⟩ := apply_ex (u := s[k]) h1 (he _ (List.getElem_mem hk)) (by omega)
      refine ⟨(((k + 1 : Nat) : Int), x'), ?_, rfl, by rw [es]; exact e2, ?_⟩
      · unfold fold_Fold.l1
        simp only [lt_of_len hk, if_true, idx_nat hk, Option.bind_some, e1, letV, wcast hk (by omega)]
      · show canonB x' = _
        rw [e3, h2, take_snoc hk]
        unfold foldT
        rw [List.foldl_append]
        rfl
    · rintro ⟨i, y⟩ ⟨hi, h1, h2⟩
      simp only at hi h1 h2
      subst hi
      rw [List.take_length] at h1 h2
      refine ⟨y, ?_, h1, h2⟩
      unfold fold_Fold.l1
      simp only [not_lt_len, Bool.false_eq_true, if_false]
  obtain ⟨b, e1, e2, e3⟩ := key
  rw [e1, Option.bind_some, fold_store_eq e2 hn, e3]
  exact ⟨rfl, e3 ▸ GD_canon e2⟩
theorem GD_one {n : Nat} {objs : List fold_Object} (h : GD n objs) {o : fold_Object} (ho : o ∈ objs) : GD n [o] := by
  refine ⟨List.pairwise_singleton _ _, ?_, ?_, ?_, ?_, ?_, ?_⟩
  · have := List.length_pos_of_mem ho
    have := h.len
    simp only [List.length_singleton]
    omega
  all_goals intro p hp; simp at hp; subst hp
  · exact h.name _ ho
  · exact h.ne _ ho
  · exact h.fasc _ ho
  · exact h.flen _ ho
  · exact h.good _ ho
end Go.Proofs.Ytlbcfjblpopcnaa
set_option linter.unusedVariables false
set_option linter.unusedSimpArgs false
namespace Go.Proofs.Ytlbcfjblpopcnaa
open Go Go.Proofs.YtlbcfjblpopcnaaL
theorem Effect_ex (n : Int) (b : Bool) : ∃ e, eslaw00_Effect n b = some e ∧ EF e ∧ (b = false → e.Kind ≠ 1) := by
  unfold eslaw00_Effect
  obtain ⟨d1, e1, _⟩ := Digit_ex n 4 1 (by decide) (by decide) (by decide)
  obtain ⟨s1, f1, l1, _⟩ := name_ex d1
  obtain ⟨d2, e2, _⟩ := Digit_ex n 4 2 (by decide) (by decide) (by decide)
  obtain ⟨s2, f2, l2, _⟩ := name_ex d2
  obtain ⟨d3, e3, _⟩ := Digit_ex n 16 3 (by decide) (by decide) (by decide)
  obtain ⟨d5, e5, _⟩ := Digit_ex n 4 5 (by decide) (by decide) (by decide)
  obtain ⟨s5, f5, l5, _⟩ := name_ex d5
  obtain ⟨d0, e0, _⟩ := Digit_ex n 4 0 (by decide) (by decide) (by decide)
  have e1 : eslaw00_Digit n 4 1 = some d1 := e1
  have e2 : eslaw00_Digit n 4 2 = some d2 := e2
  have e3 : eslaw00_Digit n 16 3 = some d3 := e3
  have e5 : eslaw00_Digit n 4 5 = some d5 := e5
  have e0 : eslaw00_Digit n 4 0 = some d0 := e0
  simp only [e1, f1, e2, f2, e3, e5, f5, e0, Option.bind_some, letV_of, eslaw00_Effect.j1]
  have m1 : s1.length ≤ 1000 := by omega
  have m2 : s2.length ≤ 1000 := by omega
  have m5 : s5.length ≤ 1000 := by omega
  cases b with
  | true => exact ⟨_, rfl, ⟨m1, m2, m5⟩, by simp⟩
  | false =>
    simp only [Bool.false_eq_true, if_false]
    split
    · exact ⟨_, rfl, ⟨m1, m2, by simp⟩, by simp⟩
    · split
      · exact ⟨_, rfl, ⟨m1, m2, by simp⟩, by simp⟩
      · split
        · exact ⟨_, rfl, ⟨m1, m2, m5⟩, by simp⟩
        · exact ⟨_, rfl, ⟨m1, m2, by simp⟩, by simp⟩
structure UOK (u : api_Update) : Prop where
  len : u.Effects.length ≤ 4
  ef : ∀ e ∈ u.Effects, EF e
  one : u.Effects.length ≤ 1 ∨ ∀ e ∈ u.Effects, e.Kind ≠ 1
theorem Update_ex (c s n : Int) : ∃ u, eslaw00_Update c s n = some u ∧ u.Client = c ∧ u.Seq = s ∧ UOK u := by
  unfold eslaw00_Update
  obtain ⟨d8, e8, _⟩ := Digit_ex n 3 8 (by decide) (by decide) (by decide)
  obtain ⟨d4, e4, _⟩ := Digit_ex n 16 4 (by decide) (by decide) (by decide)
  obtain ⟨ef, hef, hE, _⟩ := Effect_ex n true
  have e8 : eslaw00_Digit n 3 8 = some d8 := e8
  have e4 : eslaw00_Digit n 16 4 = some d4 := e4
  simp only [e8, Option.bind_some]
  split
  · simp only [e4, hef, Option.bind_some]
    refine ⟨_, rfl, rfl, rfl, ⟨by simp, fun e he => ?_, .inl (by simp)⟩⟩
    simp at he
    subst he
    exact hE
  · obtain ⟨d9, e9, h90, h91⟩ := Digit_ex n 3 9 (by decide) (by decide) (by decide)
    have e9 : eslaw00_Digit n 3 9 = some d9 := e9
    have key : ∃ l, loopO (eslaw00_Update.l1 n) (0, []) = some l ∧ (l.length ≤ 4 ∧ ∀ e ∈ l, EF e ∧ e.Kind ≠ 1) := by
      refine loopO_mu (fun s : Int × List api_Effect => 0 ≤ s.1 ∧ s.1 ≤ 3 ∧ s.2.length ≤ s.1.toNat ∧ ∀ e ∈ s.2, EF e ∧ e.Kind ≠ 1) (fun s => (4 - s.1).toNat) ⟨by decide, by decide, by simp, by simp⟩ ?_
      rintro ⟨i, l⟩ ⟨h0, h1, h2, h3⟩
      simp only at h0 h1 h2 h3
      unfold eslaw00_Update.l1
      simp only [e9, Option.bind_some]
      by_cases hc : i ≤ d9
      · rw [if_pos (by simpa using hc)]
        obtain ⟨x, hx, hx0, hx1⟩ := Index_ex n 1099511627776 (by decide) (by decide)
        simp only [hx, Option.bind_some, letV_of]
        rw [w64 (x := i + 1) (by omega) (by omega), if_pos (by omega)]
        obtain ⟨e, he, hE, hk⟩ := Effect_ex (IntKind.i64.wrap (Int.tdiv x (i + 1))) false
        rw [he, Option.bind_some, app_of (by simp only [List.length_singleton]; omega), Option.bind_some]
        refine .inl ⟨_, rfl, ⟨by omega, by omega, ?_, fun q hq => ?_⟩, by simp only; omega⟩
        · simp only [List.length_append, List.length_singleton]; omega
        · rcases List.mem_append.1 hq with hq | hq
          · exact h3 q hq
          · simp at hq; subst hq; exact ⟨hE, hk rfl⟩
      · rw [if_neg (by simpa using hc)]
        exact .inr ⟨l, rfl, by omega, h3⟩
    obtain ⟨l, hl, h1, h2⟩ := key
    rw [hl, Option.bind_some]
    exact ⟨_, rfl, rfl, rfl, ⟨h1, fun e he => (h2 e he).1, .inr fun e he => (h2 e he).2⟩⟩
def ult (a b : api_Update) : Prop := a.Client < b.Client ∨ a.Client = b.Client ∧ a.Seq < b.Seq
structure US (c q : Int) (s : List api_Update) : Prop where
  ok : ∀ u ∈ s, UOK u
  cl : ∀ u ∈ s, 101 ≤ u.Client ∧ (u.Client < 101 + c ∨ u.Client = 101 + c ∧ u.Seq ≤ q)
  sq : ∀ u ∈ s, 1 ≤ u.Seq ∧ u.Seq ≤ 8
  asc : s.Pairwise ult
  len : (s.length : Int) ≤ 8 * c + q
theorem Updates_ex (l : List Int) : ∃ s, eslaw00_Updates l = some s ∧ US 3 0 s := by
  unfold eslaw00_Updates
  have key : ∃ s, loopO (eslaw00_Updates.l2 l) ([], 0) = some s ∧ US 3 0 s := by
    refine loopO_inv (I := fun k s => s.2 = (k : Int) ∧ US (k : Int) 0 s.1) 3 ⟨rfl, ⟨by simp, by simp, by simp, List.Pairwise.nil, by simp⟩⟩ ?_ ?_
    · rintro k ⟨s, c⟩ hk ⟨hc, hU⟩
      simp only at hc hU
      subst hc
      unfold eslaw00_Updates.l2
      simp only
      rw [if_pos (by rw [decide_eq_true_eq]; omega)]
      have inner : ∃ s', loopO (eslaw00_Updates.l1 l (k : Int)) (s, 0, 0) = some s' ∧ US ((k : Int) + 1) 0 s' := by
        refine loopO_mu (fun t : List api_Update × Int × Int => 0 ≤ t.2.2 ∧ t.2.2 ≤ 24 ∧ 0 ≤ t.2.1 ∧ t.2.1 ≤ 8 ∧ US (k : Int) t.2.1 t.1) (fun t => (25 - t.2.2).toNat) ⟨Int.le_refl 0, (by decide : (0 : Int) ≤ 24), Int.le_refl 0, (by decide : (0 : Int) ≤ 8), hU⟩ ?_
        rintro ⟨s, q, i⟩ ⟨h0, h1, h2, h3, hU⟩
        simp only at h0 h1 h2 h3 hU
        have stop : US ((k : Int) + 1) 0 s := ⟨hU.ok, fun u hu => ⟨(hU.cl u hu).1, .inl (by rcases (hU.cl u hu).2 with h | h <;> omega)⟩, hU.sq, hU.asc, by have := hU.len; omega⟩
        unfold eslaw00_Updates.l1
        simp only
        have next : ∀ (s' : List api_Update) (q' : Int), 0 ≤ q' → q' ≤ 8 → US (k : Int) q' s' → i < 24 → (∃ t, eslaw00_Updates.j3 i s' q' = some (.inl t) ∧ (0 ≤ t.2.2 ∧ t.2.2 ≤ 24 ∧ 0 ≤ t.2.1 ∧ t.2.1 ≤ 8 ∧ US (k : Int) t.2.1 t.1) ∧ (25 - t.2.2).toNat < (25 - i).toNat) := by
          intro s' q' hq0 hq1 hU' hi
          unfold eslaw00_Updates.j3
          rw [letV_of, w64 (x := i + 1) (by omega) (by omega)]
          exact ⟨_, rfl, ⟨by simp only; omega, by simp only; omega, hq0, hq1, hU'⟩, by simp only; omega⟩
        by_cases hi1 : i < (l.length : Int)
        · rw [if_pos (by simpa using hi1)]
          by_cases hi2 : i < 24
          · rw [show decide (i < 24) = true by simpa using hi2]
            unfold eslaw00_Updates.j5
            rw [if_pos rfl]
            obtain ⟨j, rfl⟩ : ∃ j : Nat, i = j := ⟨i.toNat, by omega⟩
            have hj : j < l.length := by omega
            rw [idx_nat hj, Option.bind_some]
            obtain ⟨d, hd, hd0, hd1⟩ := Digit_ex l[j] 3 0 (by decide) (by decide) (by decide)
            have hd : eslaw00_Digit l[j] 3 0 = some d := hd
            rw [hd, Option.bind_some]
            have skip := next s q h2 h3 hU hi2
            have j4f : eslaw00_Updates.j4 l (k : Int) s q (j : Int) false = eslaw00_Updates.j3 (j : Int) s q := by
              unfold eslaw00_Updates.j4
              rw [if_neg (by simp)]
            split
            · by_cases hq : q < 8
              · rw [show decide (q < 8) = true by simpa using hq]
                unfold eslaw00_Updates.j4
                rw [if_pos rfl, letV_of, letV_of, idx_nat hj, Option.bind_some]
                obtain ⟨x, hx, hx0, hx1⟩ := Index_ex l[j] 1099511627776 (by decide) (by decide)
                rw [hx, Option.bind_some, letV_of]
                rw [w64 (x := 101 + (k : Int)) (by omega) (by omega), w64 (x := q + 1) (by omega) (by omega)]
                obtain ⟨u, hu, huc, hus, hok⟩ := Update_ex (101 + (k : Int)) (q + 1) (IntKind.i64.wrap (Int.tdiv x 3))
                have hlen := hU.len
                rw [hu, Option.bind_some, app_of (by simp only [List.length_singleton]; omega), Option.bind_some]
                refine .inl (next _ (q + 1) (by omega) (by omega) ?_ hi2)
                have eu : (⟨u.Client, u.Seq, u.Tag, u.Effects⟩ : api_Update) = u := rfl
                rw [eu]
                refine ⟨fun v hv => ?_, fun v hv => ?_, fun v hv => ?_, ?_, by simp only [List.length_append, List.length_singleton]; omega⟩
                · rcases List.mem_append.1 hv with hv | hv
                  · exact hU.ok v hv
                  · simp at hv; subst hv; exact hok
                · rcases List.mem_append.1 hv with hv | hv
                  · obtain ⟨a, b⟩ := hU.cl v hv
                    exact ⟨a, by rcases b with b | b <;> omega⟩
                  · simp at hv; subst hv; rw [huc, hus]; omega
                · rcases List.mem_append.1 hv with hv | hv
                  · exact hU.sq v hv
                  · simp at hv; subst hv; rw [hus]; omega
                · rw [List.pairwise_append]
                  refine ⟨hU.asc, List.pairwise_singleton _ _, fun a ha b hb => ?_⟩
                  simp at hb; subst hb
                  unfold ult
                  rw [huc, hus]
                  rcases (hU.cl a ha).2 with h | h <;> omega
              · rw [show decide (q < 8) = false by simpa using hq, j4f]
                exact .inl skip
            · rw [j4f]
              exact .inl skip
          · rw [show decide (i < 24) = false by simpa using hi2]
            exact .inr ⟨s, rfl, stop⟩
        · rw [if_neg (by simpa using hi1)]
          exact .inr ⟨s, rfl, stop⟩
      obtain ⟨s', e1, e2⟩ := inner
      rw [e1, Option.bind_some]
      unfold eslaw00_Updates.j2
      rw [letV_of, w64n (by omega)]
      refine ⟨_, rfl, rfl, ?_⟩
      have : ((k + 1 : Nat) : Int) = (k : Int) + 1 := by omega
      rw [this]
      exact e2
    · rintro ⟨s, c⟩ ⟨hc, hU⟩
      simp only at hc hU
      subst hc
      exact ⟨s, rfl, hU⟩
  obtain ⟨s, e1, e2⟩ := key
  rw [e1]
  exact ⟨s, rfl, e2⟩
theorem US_effN {c q : Int} {s : List api_Update} (h : US c q s) : effN s ≤ 4 * s.length := by
  have : ∀ l : List api_Update, (∀ u ∈ l, UOK u) → effN l ≤ 4 * l.length := by
    intro l
    induction l with
    | nil => intro _; exact Nat.zero_le _
    | cons u l ih =>
      intro h
      have h1 := (h u (by simp)).len
      have h2 := ih fun v hv => h v (by simp [hv])
      unfold effN at h2 ⊢
      rw [List.map_cons, List.sum_cons, List.length_cons]
      omega
  exact this s h.ok
end Go.Proofs.Ytlbcfjblpopcnaa
set_option linter.unusedVariables false
namespace Go.Proofs.Ytlbcfjblpopcnaa
open Go Go.Proofs.YtlbcfjblpopcnaaL
theorem made_fold {s : List api_Update} (h : US 3 0 s) : fold_Fold s = some ⟨foldT s []⟩ ∧ GD 100 (foldT s []) := by
  have h1 := h.len
  have h2 := US_effN h
  obtain ⟨a, b⟩ := Fold_eq (s := s) (fun u hu => (h.ok u hu).ef) (by omega) (by omega)
  exact ⟨a, b.mono (by omega)⟩
end Go.Proofs.Ytlbcfjblpopcnaa
set_option linter.unusedVariables false
set_option linter.unusedSimpArgs false
namespace Go.Proofs.Ytlbcfjblpopcnaa
open Go Go.Proofs.YtlbcfjblpopcnaaL
theorem Find_eq {n : Nat} {t : fold_Store} (h : GD n t.Objects) (hn : n ≤ 1000000) (k : List UInt8) : fold_Find t k = some ((get ON_ t.Objects k).getD ⟨k, []⟩) := by
  unfold fold_Find
  have hlen := h.len
  have key : loopO (fold_Find.l1 t k) 0 = some (match get ON_ t.Objects k with | some o => .inr o | none => .inl ()) := by
    have h1 := loopO_runL (step := fold_Find.l1 t k) (fun i (_ : Unit) => (i : Int)) (fun _ o (_ : Unit) => if o.Name = k then some (.inr (.inr o)) else some (.inl ())) (fun _ => some (.inl ())) t.Objects (fun i hi _ => ?_) (fun _ => ?_) ()
    · have h2 : ∀ (l : List fold_Object) (i : Nat), runL (fun _ (o : fold_Object) (_ : Unit) => if o.Name = k then some (.inr (.inr o : Unit ⊕ fold_Object)) else some (.inl ())) (fun _ => some (.inl ())) i l () = some (match get ON_ l k with | some o => .inr o | none => .inl ()) := by
        intro l
        induction l with
        | nil => intro i; rfl
        | cons o l ih =>
          intro i
          rw [runL, get_cons]
          by_cases he : o.Name = k
          · rw [if_pos he, if_pos he]
          · rw [if_neg he, if_neg he]
            exact ih _
      rw [← h2 t.Objects 0]
      exact h1
    · have hm := List.getElem_mem hi
      unfold fold_Find.l1
      simp only [lt_of_len hi, if_true, idx_nat hi, Option.bind_some]
      by_cases he : t.Objects[i].Name = k
      · rw [if_pos (by simp [he]), if_pos he]
        have hone := GD_one h hm
        rw [load_eq (t := ⟨[t.Objects[i]]⟩) hone hn, Option.bind_some, fold_store_eq (BI_loaded hone) hn, Option.bind_some, canon_loaded hone]
        rfl
      · rw [if_neg (by simpa using he), if_neg he, letV, wcast hi (by omega)]
    · unfold fold_Find.l1
      simp only [not_lt_len, Bool.false_eq_true, if_false]
      rfl
  rw [key, Option.bind_some]
  cases get ON_ t.Objects k with
  | none => rfl
  | some o => rfl
theorem FieldOf_eq {n : Nat} {o : fold_Object} (h1 : o.Fields.length ≤ n) (h2 : ∀ y ∈ o.Fields, GF n y) (hn : n ≤ 1000000) (k : List UInt8) :
    fold_FieldOf o k = some ((get FN_ o.Fields k).getD { fold_zero with Name := k }) := by
  unfold fold_FieldOf
  have key : loopO (fold_FieldOf.l1 o k) (0, (⟨[], (⟨false, 0, 0, 0, 0, []⟩ : fold_Register), false, 0, 0, [], false⟩ : fold_Field)) = some (match get FN_ o.Fields k with | some y => .inr y | none => .inl ⟨[], ⟨false, 0, 0, 0, 0, []⟩, false, 0, 0, [], false⟩) := by
    have h1 := loopO_runL (step := fold_FieldOf.l1 o k) (fun i (z : fold_Field) => ((i : Int), z)) (fun _ y (z : fold_Field) => if y.Name = k then some (.inr (.inr y)) else some (.inl z)) (fun z => some (.inl z)) o.Fields (fun i hi z => ?_) (fun z => ?_) ⟨[], ⟨false, 0, 0, 0, 0, []⟩, false, 0, 0, [], false⟩
    · have h2 : ∀ (l : List fold_Field) (i : Nat) (z : fold_Field), runL (fun _ (y : fold_Field) (z : fold_Field) => if y.Name = k then some (.inr (.inr y : fold_Field ⊕ fold_Field)) else some (.inl z)) (fun z => some (.inl z)) i l z = some (match get FN_ l k with | some y => .inr y | none => .inl z) := by
        intro l
        induction l with
        | nil => intro i z; rfl
        | cons o l ih =>
          intro i z
          rw [runL, get_cons]
          by_cases he : o.Name = k
          · rw [if_pos he, if_pos he]
          · rw [if_neg he, if_neg he]
            exact ih _ z
      rw [← h2 o.Fields 0]
      exact h1
    · have hm := List.getElem_mem hi
      unfold fold_FieldOf.l1
      simp only [lt_of_len hi, if_true, idx_nat hi, Option.bind_some]
      by_cases he : o.Fields[i].Name = k
      · rw [if_pos (by simp [he]), if_pos he, clone_eq (by have := (h2 _ hm).len; omega)]
        rfl
      · rw [if_neg (by simpa using he), if_neg he, letV, wcast hi (by omega)]
    · unfold fold_FieldOf.l1
      simp only [not_lt_len, Bool.false_eq_true, if_false]
      rfl
  rw [key, Option.bind_some]
  cases get FN_ o.Fields k with
  | none => rfl
  | some o => rfl
end Go.Proofs.Ytlbcfjblpopcnaa
set_option linter.unusedVariables false
set_option linter.unusedSimpArgs false
namespace Go.Proofs.Ytlbcfjblpopcnaa
open Go Go.Proofs.YtlbcfjblpopcnaaL
theorem strings_refl {l : List (List UInt8)} (h : l.length ≤ 1000000) : slices_Equal_string l l = some true := by
  unfold slices_Equal_string
  rw [if_neg (by simp)]
  have := loopO_up (step := slices_Equal_string.l1 l l) (fun k => (k : Int)) l.length (b := .inl ()) (fun k hk => ?_) ?_
  · have this : loopO (slices_Equal_string.l1 l l) 0 = some (.inl ()) := this
    rw [this]; rfl
  · unfold slices_Equal_string.l1
    simp only [lt_of_len hk, if_true, idx_nat hk, Option.bind_some, bne_self_eq_false, Bool.false_eq_true, if_false, letV_of, wcast hk (by omega)]
  · unfold slices_Equal_string.l1
    simp only [not_lt_len, Bool.false_eq_true, if_false]
theorem field_refl {n : Nat} {y : fold_Field} (h : GF n y) (hn : n ≤ 1000000) : fold_equalFields y y = some true := by
  unfold fold_equalFields
  have := h.len
  simp only [beq_self_eq_true, if_true, decide_true, strings_refl (show y.Elems.length ≤ 1000000 by omega), Option.bind_some, fold_equalFields.j1]
theorem fields_refl {n : Nat} {l : List fold_Field} (h : ∀ y ∈ l, GF n y) (hl : l.length ≤ n) (hn : n ≤ 1000000) : slices_EqualFunc_Field l l (fun p => fold_equalFields p.1 p.2) = some true := by
  unfold slices_EqualFunc_Field
  rw [if_neg (by simp)]
  have := loopO_up (step := slices_EqualFunc_Field.l1 l l (fun p => fold_equalFields p.1 p.2)) (fun k => (k : Int)) l.length (b := .inl ()) (fun k hk => ?_) ?_
  · have this : loopO (slices_EqualFunc_Field.l1 l l (fun p => fold_equalFields p.1 p.2)) 0 = some (.inl ()) := this
    rw [this]; rfl
  · unfold slices_EqualFunc_Field.l1
    simp only [lt_of_len hk, if_true, idx_nat hk, Option.bind_some, field_refl (h _ (List.getElem_mem hk)) hn, Bool.not_true, Bool.false_eq_true, if_false, letV_of, wcast hk (by omega)]
  · unfold slices_EqualFunc_Field.l1
    simp only [not_lt_len, Bool.false_eq_true, if_false]
theorem object_refl {n : Nat} {o : fold_Object} (h : ∀ y ∈ o.Fields, GF n y) (hl : o.Fields.length ≤ n) (hn : n ≤ 1000000) : fold_equalObjects o o = some true := by
  unfold fold_equalObjects
  simp only [beq_self_eq_true, if_true, fields_refl h hl hn, Option.bind_some, fold_equalObjects.j1]
theorem Equal_refl {n : Nat} {t : fold_Store} (h : GD n t.Objects) (hn : n ≤ 1000000) : fold_Equal t t = some true := by
  unfold fold_Equal slices_EqualFunc_Object
  have hlen := h.len
  rw [if_neg (by simp)]
  have := loopO_up (step := slices_EqualFunc_Object.l1 t.Objects t.Objects (fun p => fold_equalObjects p.1 p.2)) (fun k => (k : Int)) t.Objects.length (b := .inl ()) (fun k hk => ?_) ?_
  · have this : loopO (slices_EqualFunc_Object.l1 t.Objects t.Objects (fun p => fold_equalObjects p.1 p.2)) 0 = some (.inl ()) := this
    rw [this]; rfl
  · have hm := List.getElem_mem hk
    unfold slices_EqualFunc_Object.l1
    simp only [lt_of_len hk, if_true, idx_nat hk, Option.bind_some, object_refl (h.good _ hm) (h.flen _ hm) hn, Bool.not_true, Bool.false_eq_true, if_false, letV_of, wcast hk (by omega)]
  · unfold slices_EqualFunc_Object.l1
    simp only [not_lt_len, Bool.false_eq_true, if_false]
def wU : api_Update := ⟨101, 1, 0, [⟨3, [120], [99], 2, []⟩]⟩
def wV : api_Update := ⟨102, 1, 0, [⟨3, [120], [99], 3, []⟩, ⟨4, [97], [115], 0, [113]⟩]⟩
def wT : List fold_Object := [⟨[97], [⟨[115], ⟨false, 0, 0, 0, 0, []⟩, false, 0, 0, [[113]], false⟩]⟩, ⟨[120], [⟨[99], ⟨false, 0, 0, 0, 0, []⟩, false, 0, 5, [], false⟩]⟩]
theorem wU_ef : ∀ e ∈ wU.Effects, EF e := by
  intro e he
  simp [wU] at he
  subst he
  exact ⟨by decide, by decide, by decide⟩
theorem wV_ef : ∀ e ∈ wV.Effects, EF e := by
  intro e he
  simp [wV] at he
  rcases he with rfl | rfl <;> exact ⟨by decide, by decide, by decide⟩
theorem awake_true : eslaw30_awake = some true := by
  unfold eslaw30_awake
  obtain ⟨e1, g1⟩ := Apply_eq (n := 0) (t := ⟨[]⟩) (u := wV) (GD_nil 0) wV_ef (by decide)
  have e1 : fold_Apply (⟨[]⟩ : fold_Store) (⟨102, 1, 0, [(⟨3, ([120] : List UInt8), ([99] : List UInt8), 3, []⟩ : api_Effect), (⟨4, ([97] : List UInt8), ([115] : List UInt8), 0, ([113] : List UInt8)⟩ : api_Effect)]⟩ : api_Update) = some ⟨appT wV []⟩ := e1
  obtain ⟨e2, g2⟩ := Apply_eq (t := ⟨appT wV []⟩) (u := wU) g1 wU_ef (by decide)
  have ew : appT wU (appT wV []) = wT := by decide
  have ew2 : foldT [wU, wV] [] = wT := by decide
  rw [ew] at e2 g2
  have e2 : fold_Apply ⟨appT wV []⟩ (⟨101, 1, 0, [(⟨3, ([120] : List UInt8), ([99] : List UInt8), 2, []⟩ : api_Effect)]⟩ : api_Update) = some ⟨wT⟩ := e2
  rw [e1, Option.bind_some, e2, Option.bind_some]
  obtain ⟨e3, _⟩ := Fold_eq (s := [wU, wV]) (by
    intro u hu
    simp at hu
    rcases hu with rfl | rfl
    · exact wU_ef
    · exact wV_ef) (by decide) (by decide)
  rw [ew2] at e3
  have e3 : fold_Fold ([(⟨101, 1, 0, [(⟨3, ([120] : List UInt8), ([99] : List UInt8), 2, []⟩ : api_Effect)]⟩ : api_Update), (⟨102, 1, 0, [(⟨3, ([120] : List UInt8), ([99] : List UInt8), 3, []⟩ : api_Effect), (⟨4, ([97] : List UInt8), ([115] : List UInt8), 0, ([113] : List UInt8)⟩ : api_Effect)]⟩ : api_Update)]) = some ⟨wT⟩ := e3
  have e4 := Find_eq (t := ⟨wT⟩) g2 (by decide) [120]
  have e5 : (get ON_ wT [120]).getD ⟨[120], []⟩ = ⟨[120], [⟨[99], ⟨false, 0, 0, 0, 0, []⟩, false, 0, 5, [], false⟩]⟩ := by decide
  rw [show (⟨wT⟩ : fold_Store).Objects = wT from rfl, e5] at e4
  have e6 := FieldOf_eq (n := 1) (o := ⟨[120], [⟨[99], ⟨false, 0, 0, 0, 0, []⟩, false, 0, 5, [], false⟩]⟩) (by decide) (by
    intro y hy
    simp at hy
    subst hy
    exact ⟨by decide, List.Pairwise.nil, by decide, by simp, by decide⟩) (by decide) [99]
  have e7 : (get FN_ [⟨[99], ⟨false, 0, 0, 0, 0, []⟩, false, 0, 5, [], false⟩] [99]).getD { fold_zero with Name := [99] } = ⟨[99], ⟨false, 0, 0, 0, 0, []⟩, false, 0, 5, [], false⟩ := by decide
  rw [show (⟨[120], [⟨[99], ⟨false, 0, 0, 0, 0, []⟩, false, 0, 5, [], false⟩]⟩ : fold_Object).Fields = [⟨[99], ⟨false, 0, 0, 0, 0, []⟩, false, 0, 5, [], false⟩] from rfl, e7] at e6
  have e8 := Equal_refl (t := ⟨wT⟩) g2 (by decide)
  have e9 : fold_Equal ⟨wT⟩ ⟨[]⟩ = some false := by
    unfold fold_Equal slices_EqualFunc_Object
    rw [if_pos (by decide)]
    rfl
  have e10 : fold_Hash ⟨[]⟩ = some 14695981039346656037 := by
    unfold fold_Hash
    rw [loopO_done (b := 14695981039346656037) (by unfold fold_Hash.l3; rfl)]
    rfl
  rw [if_pos (by decide)]
  rw [show idx (⟨wT⟩ : fold_Store).Objects 0 = some ⟨[97], [⟨[115], ⟨false, 0, 0, 0, 0, []⟩, false, 0, 0, [[113]], false⟩]⟩ from rfl, Option.bind_some, if_pos (by decide), e4, Option.bind_some, e6, Option.bind_some, if_pos (by decide), e3, Option.bind_some, e8, Option.bind_some, if_pos rfl, e9, Option.bind_some, if_pos (by decide), e10, Option.bind_some]
  rfl
end Go.Proofs.Ytlbcfjblpopcnaa
set_option linter.unusedVariables false
set_option linter.unusedSimpArgs false
namespace Go.Proofs.Ytlbcfjblpopcnaa
open Go Go.Proofs.YtlbcfjblpopcnaaL
theorem rstrings_refl {l : List (List UInt8)} (h : l.length ≤ 1000000) : esref32_EqualStrings l l = some true := by
  unfold esref32_EqualStrings
  rw [if_neg (by simp)]
  have := loopO_up (step := esref32_EqualStrings.l1 l l) (fun k => (k : Int)) l.length (b := .inl ()) (fun k hk => ?_) ?_
  · have this : loopO (esref32_EqualStrings.l1 l l) 0 = some (.inl ()) := this
    rw [this]; rfl
  · unfold esref32_EqualStrings.l1
    simp only [lt_of_len hk, if_true, idx_nat hk, Option.bind_some, bne_self_eq_false, Bool.false_eq_true, if_false, letV_of, wcast hk (by omega)]
  · unfold esref32_EqualStrings.l1
    simp only [not_lt_len, Bool.false_eq_true, if_false]
theorem rfield_refl {n : Nat} {y : fold_Field} (h : GF n y) (hn : n ≤ 1000000) : esref32_EqualField y y = some true := by
  unfold esref32_EqualField
  have := h.len
  simp only [beq_self_eq_true, if_true, decide_true, rstrings_refl (show y.Elems.length ≤ 1000000 by omega), Option.bind_some, esref32_EqualField.j1]
theorem robject_refl {n : Nat} {o : fold_Object} (h : ∀ y ∈ o.Fields, GF n y) (hl : o.Fields.length ≤ n) (hn : n ≤ 1000000) : esref32_EqualObject o o = some true := by
  unfold esref32_EqualObject
  rw [if_neg (by simp)]
  unfold esref32_EqualObject.j2
  rw [if_neg (by simp)]
  have := loopO_up (step := esref32_EqualObject.l1 o o) (fun k => (k : Int)) o.Fields.length (b := .inl ()) (fun k hk => ?_) ?_
  · have this : loopO (esref32_EqualObject.l1 o o) 0 = some (.inl ()) := this
    rw [this]; rfl
  · unfold esref32_EqualObject.l1
    simp only [lt_of_len hk, if_true, idx_nat hk, Option.bind_some, rfield_refl (h _ (List.getElem_mem hk)) hn, Bool.not_true, Bool.false_eq_true, if_false, letV_of, wcast hk (by omega)]
  · unfold esref32_EqualObject.l1
    simp only [not_lt_len, Bool.false_eq_true, if_false]
theorem rEqual_refl {n : Nat} {t : fold_Store} (h : GD n t.Objects) (hn : n ≤ 1000000) : esref32_Equal t t = some true := by
  unfold esref32_Equal
  have hlen := h.len
  rw [if_neg (by simp)]
  have := loopO_up (step := esref32_Equal.l1 t t) (fun k => (k : Int)) t.Objects.length (b := .inl ()) (fun k hk => ?_) ?_
  · have this : loopO (esref32_Equal.l1 t t) 0 = some (.inl ()) := this
    rw [this]; rfl
  · have hm := List.getElem_mem hk
    unfold esref32_Equal.l1
    simp only [lt_of_len hk, if_true, idx_nat hk, Option.bind_some, robject_refl (h.good _ hm) (h.flen _ hm) hn, Bool.not_true, Bool.false_eq_true, if_false, letV_of, wcast hk (by omega)]
  · unfold esref32_Equal.l1
    simp only [not_lt_len, Bool.false_eq_true, if_false]
end Go.Proofs.Ytlbcfjblpopcnaa
set_option linter.unusedVariables false
set_option linter.unusedSimpArgs false
namespace Go.Proofs.Ytlbcfjblpopcnaa
open Go Go.Proofs.YtlbcfjblpopcnaaL
end Go.Proofs.Ytlbcfjblpopcnaa
set_option linter.unusedVariables false
set_option linter.unusedSimpArgs false
namespace Go.Proofs.Ytlbcfjblpopcnaa
open Go Go.Proofs.YtlbcfjblpopcnaaL
abbrev inr (n : Int) : Prop := -9223372036854775808 ≤ n ∧ n ≤ 9223372036854775807
end Go.Proofs.Ytlbcfjblpopcnaa
