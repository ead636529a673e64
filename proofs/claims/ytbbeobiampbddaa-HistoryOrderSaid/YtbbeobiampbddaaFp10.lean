import Derived.Test.YtbbeobiampbddaaFh
import Derived.Test.YtbbeobiampbddaaLz
import Derived.Test.YtbbeobiampbddaaMf
import Derived.Test.YtbbeobiampbddaaFp2
import Derived.Test.YtbbeobiampbddaaFp3
import Derived.Test.YtbbeobiampbddaaFp4
import Derived.Test.YtbbeobiampbddaaFp9
set_option linter.unusedVariables false
set_option linter.unusedSimpArgs false
namespace Go.Proofs.Ytbbeobiampbddaa
open Go Go.RowKit Go.Proofs.YtbbeobiampbddaaL
set_option maxRecDepth 100000
set_option maxHeartbeats 4000000
/-! elasticstore/elasticstorelaw38.HistoryOrder: function 5 -/
theorem eslaw38_HistoryOrder.calls {ok : Nat → Prop} {w0 : World} {x1 : List Int} {x4 : Int} {x5 : Int} {x6 : Int} {x7 : Int} {a2 : Option Addr} {c3 : Nat} {r : Bool} (hf : eslaw38_HistoryOrder x1 x4 x5 x6 x7 = some r) (i0 : (vl (tSlice (tInt .i64)) x1 (.slice a2 x1.length c3)).holds ok w0) :
    Calls Try.prog 5 #[.slice a2 x1.length c3, .int .i64 x4, .int .i64 x5, .int .i64 x6, .int .i64 x7] w0 fun e w' => ∃ v, e = .returned v ∧ ∃ y : Unit, v = .bool r ∧ St ok (bz w0) w' [] [] := by
  unfold eslaw38_HistoryOrder at hf
  refine calls_of_W (fn := Try.f5) (N := 137) Try.func5 rfl Try.ntmps5 rfl ?_
  have hs : St ok (bz w0) w0 [vl (tSlice (tInt .i64)) x1 (.slice a2 x1.length c3)] [] := St.init (All.cons i0 All.nil)
  clear i0
  refine W.seqK fun K8 hK8 => ?_
  refine W.region ?_
  refine WL.assign (v := .bool false) rfl ?_
  refine WL.nil ?_
  refine hK8 _ _ ?_
  refine W.seqK fun K9 hK9 => ?_
  refine W.region ?_
  refine WL.move (v := .slice a2 x1.length c3) rfl ?_
  obtain ⟨x10, hxx10, hf⟩ := bindE hf
  refine WL.call (vs := [.slice a2 x1.length c3]) hs FN13 ⟨rfl, trivial⟩ (fun ok hA => eslaw38_Times.calls (x1 := x1) hxx10 (hA.get 0 rfl)) ?_
  rintro ⟨a11, n12, c13⟩ w hs
  refine WL.alloc hs ZV24 (fun g14 w hs => ?_)
  refine WL.storeAll (vs := [.slice a11 n12 c13]) hs 0 rfl TI24 rfl rfl rfl rfl (ones_of rfl) rfl (fun w hs => ?_)
  refine WL.nil ?_
  refine hK9 _ _ ?_
  refine W.seqK fun K15 hK15 => ?_
  refine W.region ?_
  refine WL.fieldAddr (m := 0) rfl FA24_0 rfl ?_
  refine WL.load1 (v := .slice a11 n12 c13) hs 0 rfl TI22 rfl rfl ?_
  refine WL.len (v := .slice a11 n12 c13) rfl (len_own hs 1 rfl UN22) ?_
  obtain ⟨x16, ex16, hf⟩ := letE hf
  refine WL.bin (v := .int .i64 x16) rfl rfl (ib_as ex16 (ib_add _ _ _)) ?_
  refine WL.assign (v := .int .i64 x16) rfl ?_
  refine WL.nil ?_
  refine hK15 _ _ ?_
  refine W.seqK fun K17 hK17 => ?_
  refine W.region ?_
  refine WL.move (v := .int .i64 x4) rfl ?_
  refine WL.move (v := .int .i64 x16) rfl ?_
  obtain ⟨x18, hxx18, hf⟩ := bindE hf
  refine WL.call (vs := [.int .i64 x4, .int .i64 x16]) hs FN14 ⟨rfl, ⟨rfl, trivial⟩⟩ (fun ok hA => eslaw00_Index.calls (x1 := x4) (x2 := x16) hxx18) ?_
  rintro _ w hs
  obtain ⟨x19, ex19, hf⟩ := letE hf
  refine WL.bin (v := .int .i64 x19) rfl rfl (ib_as ex19 (ib_sub _ _ _)) ?_
  refine WL.move (v := .int .i64 x5) rfl ?_
  refine WL.move (v := .int .i64 x16) rfl ?_
  obtain ⟨x20, hxx20, hf⟩ := bindE hf
  refine WL.call (vs := [.int .i64 x5, .int .i64 x16]) hs FN14 ⟨rfl, ⟨rfl, trivial⟩⟩ (fun ok hA => eslaw00_Index.calls (x1 := x5) (x2 := x16) hxx20) ?_
  rintro _ w hs
  obtain ⟨x21, ex21, hf⟩ := letE hf
  refine WL.bin (v := .int .i64 x21) rfl rfl (ib_as ex21 (ib_sub _ _ _)) ?_
  refine WL.move (v := .int .i64 x6) rfl ?_
  refine WL.move (v := .int .i64 x16) rfl ?_
  obtain ⟨x22, hxx22, hf⟩ := bindE hf
  refine WL.call (vs := [.int .i64 x6, .int .i64 x16]) hs FN14 ⟨rfl, ⟨rfl, trivial⟩⟩ (fun ok hA => eslaw00_Index.calls (x1 := x6) (x2 := x16) hxx22) ?_
  rintro _ w hs
  obtain ⟨x23, ex23, hf⟩ := letE hf
  refine WL.bin (v := .int .i64 x23) rfl rfl (ib_as ex23 (ib_sub _ _ _)) ?_
  refine WL.move (v := .int .i64 x7) rfl ?_
  refine WL.move (v := .int .i64 x16) rfl ?_
  obtain ⟨x24, hxx24, hf⟩ := bindE hf
  refine WL.call (vs := [.int .i64 x7, .int .i64 x16]) hs FN14 ⟨rfl, ⟨rfl, trivial⟩⟩ (fun ok hA => eslaw00_Index.calls (x1 := x7) (x2 := x16) hxx24) ?_
  rintro _ w hs
  obtain ⟨x25, ex25, hf⟩ := letE hf
  refine WL.bin (v := .int .i64 x25) rfl rfl (ib_as ex25 (ib_sub _ _ _)) ?_
  refine WL.assign (v := .int .i64 x19) rfl ?_
  refine WL.assign (v := .int .i64 x21) rfl ?_
  refine WL.assign (v := .int .i64 x23) rfl ?_
  refine WL.assign (v := .int .i64 x25) rfl ?_
  refine WL.nil ?_
  refine hK17 _ _ ?_
  obtain rfl := hs.ownLen 1 rfl
  have hs := hs.freezeOwn 1 rfl
  refine W.seqK fun K339 hK339 => ?_
  have Jk341 : ∀  (ρ : Env) (w : World), ρ 1 = .int .i64 x19 → ρ 2 = .int .i64 x21 → ρ 3 = .int .i64 x23 → ρ 4 = .int .i64 x25 → ρ 11 = .pointer (some ⟨g14, 0, none⟩) → St ok (bz w0) w [vl (tSlice t_history_Operation) x10.Operations (.slice a11 (x10.Operations).length c13)] [blk g14 24 [.slice a11 (x10.Operations).length c13]] → eslaw38_HistoryOrder.j3 x10 x19 x21 x23 x25 = some r → K339 ρ w := by
    intro  ρ w h340_1 h340_2 h340_3 h340_4 h340_11 hs hf
    refine hK339 _ _ ?_
    unfold eslaw38_HistoryOrder.j3 at hf
    refine W.seqK fun K342 hK342 => ?_
    refine W.seqK fun K343 hK343 => ?_
    have Jk346 : ∀ (x345 : Bool) (ρ : Env) (w : World), ρ 1 = .int .i64 x19 → ρ 2 = .int .i64 x21 → ρ 3 = .int .i64 x23 → ρ 4 = .int .i64 x25 → ρ 11 = .pointer (some ⟨g14, 0, none⟩) → ρ 109 = .bool x345 → St ok (bz w0) w [vl (tSlice t_history_Operation) x10.Operations (.slice a11 (x10.Operations).length c13)] [blk g14 24 [.slice a11 (x10.Operations).length c13]] → eslaw38_HistoryOrder.j2 x10 x19 x21 x23 x25 x345 = some r → K343 ρ w := by
      intro x345 ρ w h344_1 h344_2 h344_3 h344_4 h344_11 h344_109 hs hf
      refine hK343 _ _ ?_
      unfold eslaw38_HistoryOrder.j2 at hf
      rcases iteE hf with ⟨hc347, hf⟩ | ⟨hc347, hf⟩
      {
      refine W.cond_true (bool_tr h344_109 hc347) ?_
      refine W.seqK fun K348 hK348 => ?_
      refine W.region ?_
      refine WL.assign (v := .bool false) rfl ?_
      refine WL.nil ?_
      refine hK348 _ _ ?_
      refine W.ret ?_
      have hr := Option.some.inj hf; subst hr
      exact ⟨_, resOk_one rfl rfl, (), rfl, (hs.mask []).pick []⟩ }
      {
      refine W.cond_false (bool_tr h344_109 hc347) ?_
      refine W.skip ?_
      refine hK342 _ _ ?_
      refine W.seqK fun K349 hK349 => ?_
      have Jk352 : ∀ (x351 : Bool) (ρ : Env) (w : World), ρ 10 = .bool x351 → St ok (bz w0) w [] [] → eslaw38_HistoryOrder.j1 x351 = some r → K349 ρ w := by
        intro x351 ρ w h350_10 hs hf
        refine hK349 _ _ ?_
        unfold eslaw38_HistoryOrder.j1 at hf
        refine W.ret ?_
        have hr := Option.some.inj hf; subst hr
        exact ⟨_, resOk_one rfl h350_10, (), rfl, (hs.mask []).pick []⟩
      refine W.region ?_
      refine WL.loadN (vs := [.slice a11 (x10.Operations).length c13]) hs 0 rfl TI24 h344_11 rfl rfl ?_
      refine WL.move (v := .int .i64 x19) h344_1 ?_
      refine WL.move (v := .int .i64 x21) h344_2 ?_
      have hs := hs.add (it := vl t_history_History (⟨x10.Operations⟩ : history_History) (.agg [.slice a11 (x10.Operations).length c13].toArray)) fun ok hA => V_agg ((R_one (hA.get 0 rfl))) rfl
      obtain ⟨x353, hxx353, hf⟩ := bindE hf
      refine WL.call (vs := [.agg ([.slice a11 (x10.Operations).length c13] : List Value).toArray, .int .i64 x19, .int .i64 x21]) hs FN15 ⟨rfl, ⟨rfl, ⟨rfl, trivial⟩⟩⟩ (fun ok hA => history_Precedes.calls (x1 := (⟨x10.Operations⟩ : history_History)) (x5 := x19) (x6 := x21) hxx353 (hA.get 0 rfl)) ?_
      rintro _ w hs
      refine WL.not rfl ?_
      refine WL.move (v := .bool (!x353)) rfl ?_
      rcases iteE hf with ⟨hc354, hf⟩ | ⟨hc354, hf⟩
      {
      refine WL.pass ((wanted_of rfl rfl (bool_tr rfl hc354)).trans rfl) rfl ?_
      refine WL.pass ((wanted_of rfl rfl (bool_tr rfl hc354)).trans rfl) rfl ?_
      refine WL.pass ((wanted_of rfl rfl (bool_tr rfl hc354)).trans rfl) rfl ?_
      refine WL.pass ((wanted_of rfl rfl (bool_tr rfl hc354)).trans rfl) rfl ?_
      refine WL.pass ((wanted_of rfl rfl (bool_tr rfl hc354)).trans rfl) rfl ?_
      refine WL.pickT (v := .bool true) (bool_tr rfl hc354) rfl ?_
      refine WL.move (v := .bool true) rfl ?_
      refine WL.pass ((wanted_of rfl rfl rfl).trans rfl) rfl ?_
      refine WL.pass ((wanted_of rfl rfl rfl).trans rfl) rfl ?_
      refine WL.pass ((wanted_of rfl rfl rfl).trans rfl) rfl ?_
      refine WL.pass ((wanted_of rfl rfl rfl).trans rfl) rfl ?_
      refine WL.pickT (v := .bool true) rfl rfl ?_
      refine WL.move (v := .bool true) rfl ?_
      refine WL.pass ((wanted_of rfl rfl rfl).trans rfl) rfl ?_
      refine WL.pass ((wanted_of rfl rfl rfl).trans rfl) rfl ?_
      refine WL.pass ((wanted_of rfl rfl rfl).trans rfl) rfl ?_
      refine WL.pass ((wanted_of rfl rfl rfl).trans rfl) rfl ?_
      refine WL.pickT (v := .bool true) rfl rfl ?_
      refine WL.move (v := .bool true) rfl ?_
      obtain ⟨x355, hxx355, hf⟩ := bindE hf
      refine WL.call (vs := []) hs FN10 trivial (fun ok hA => eslaw38_awake.calls hxx355) ?_ (hg := (wanted_of rfl rfl rfl).trans rfl)
      rintro _ w hs
      refine WL.pickT (v := .bool x355) rfl rfl ?_
      refine WL.assign (v := .bool x355) rfl ?_
      refine WL.nil ?_
      exact Jk352 x355 _ _ rfl ((hs.mask []).pick []) hf }
      {
      refine WL.loadN (vs := [.slice a11 (x10.Operations).length c13]) hs 0 rfl TI24 h344_11 rfl rfl ?_ (hg := (wanted_of rfl rfl (bool_tr rfl hc354)).trans rfl)
      refine WL.move (v := .int .i64 x23) h344_3 ?_ (hg := (wanted_of rfl rfl (bool_tr rfl hc354)).trans rfl)
      refine WL.move (v := .int .i64 x25) h344_4 ?_ (hg := (wanted_of rfl rfl (bool_tr rfl hc354)).trans rfl)
      have hs := hs.add (it := vl t_history_History (⟨x10.Operations⟩ : history_History) (.agg [.slice a11 (x10.Operations).length c13].toArray)) fun ok hA => V_agg ((R_one (hA.get 1 rfl))) rfl
      obtain ⟨x356, hxx356, hf⟩ := bindE hf
      refine WL.call (vs := [.agg ([.slice a11 (x10.Operations).length c13] : List Value).toArray, .int .i64 x23, .int .i64 x25]) hs FN15 ⟨rfl, ⟨rfl, ⟨rfl, trivial⟩⟩⟩ (fun ok hA => history_Precedes.calls (x1 := (⟨x10.Operations⟩ : history_History)) (x5 := x23) (x6 := x25) hxx356 (hA.get 0 rfl)) ?_ (hg := (wanted_of rfl rfl (bool_tr rfl hc354)).trans rfl)
      rintro _ w hs
      refine WL.not rfl ?_ (hg := (wanted_of rfl rfl (bool_tr rfl hc354)).trans rfl)
      refine WL.pickF (v := .bool (!x356)) (bool_tr rfl hc354) rfl ?_
      refine WL.move (v := .bool (!x356)) rfl ?_
      rcases iteE hf with ⟨hc357, hf⟩ | ⟨hc357, hf⟩
      {
      refine WL.pass ((wanted_of rfl rfl (bool_tr rfl hc357)).trans rfl) rfl ?_
      refine WL.pass ((wanted_of rfl rfl (bool_tr rfl hc357)).trans rfl) rfl ?_
      refine WL.pass ((wanted_of rfl rfl (bool_tr rfl hc357)).trans rfl) rfl ?_
      refine WL.pass ((wanted_of rfl rfl (bool_tr rfl hc357)).trans rfl) rfl ?_
      refine WL.pickT (v := .bool true) (bool_tr rfl hc357) rfl ?_
      refine WL.move (v := .bool true) rfl ?_
      refine WL.pass ((wanted_of rfl rfl rfl).trans rfl) rfl ?_
      refine WL.pass ((wanted_of rfl rfl rfl).trans rfl) rfl ?_
      refine WL.pass ((wanted_of rfl rfl rfl).trans rfl) rfl ?_
      refine WL.pass ((wanted_of rfl rfl rfl).trans rfl) rfl ?_
      refine WL.pickT (v := .bool true) rfl rfl ?_
      refine WL.move (v := .bool true) rfl ?_
      obtain ⟨x358, hxx358, hf⟩ := bindE hf
      refine WL.call (vs := []) hs FN10 trivial (fun ok hA => eslaw38_awake.calls hxx358) ?_ (hg := (wanted_of rfl rfl rfl).trans rfl)
      rintro _ w hs
      refine WL.pickT (v := .bool x358) rfl rfl ?_
      refine WL.assign (v := .bool x358) rfl ?_
      refine WL.nil ?_
      exact Jk352 x358 _ _ rfl ((hs.mask []).pick []) hf }
      {
      refine WL.loadN (vs := [.slice a11 (x10.Operations).length c13]) hs 0 rfl TI24 h344_11 rfl rfl ?_ (hg := (wanted_of rfl rfl (bool_tr rfl hc357)).trans rfl)
      refine WL.move (v := .int .i64 x19) h344_1 ?_ (hg := (wanted_of rfl rfl (bool_tr rfl hc357)).trans rfl)
      refine WL.move (v := .int .i64 x25) h344_4 ?_ (hg := (wanted_of rfl rfl (bool_tr rfl hc357)).trans rfl)
      have hs := hs.add (it := vl t_history_History (⟨x10.Operations⟩ : history_History) (.agg [.slice a11 (x10.Operations).length c13].toArray)) fun ok hA => V_agg ((R_one (hA.get 2 rfl))) rfl
      obtain ⟨x359, hxx359, hf⟩ := bindE hf
      refine WL.call (vs := [.agg ([.slice a11 (x10.Operations).length c13] : List Value).toArray, .int .i64 x19, .int .i64 x25]) hs FN15 ⟨rfl, ⟨rfl, ⟨rfl, trivial⟩⟩⟩ (fun ok hA => history_Precedes.calls (x1 := (⟨x10.Operations⟩ : history_History)) (x5 := x19) (x6 := x25) hxx359 (hA.get 0 rfl)) ?_ (hg := (wanted_of rfl rfl (bool_tr rfl hc357)).trans rfl)
      rintro _ w hs
      refine WL.pickF (v := .bool x359) (bool_tr rfl hc357) rfl ?_
      refine WL.move (v := .bool x359) rfl ?_
      rcases iteE hf with ⟨hc360, hf⟩ | ⟨hc360, hf⟩
      {
      refine WL.pass ((wanted_of rfl rfl (bool_tr rfl hc360)).trans rfl) rfl ?_
      refine WL.pass ((wanted_of rfl rfl (bool_tr rfl hc360)).trans rfl) rfl ?_
      refine WL.pass ((wanted_of rfl rfl (bool_tr rfl hc360)).trans rfl) rfl ?_
      refine WL.pass ((wanted_of rfl rfl (bool_tr rfl hc360)).trans rfl) rfl ?_
      refine WL.pickT (v := .bool true) (bool_tr rfl hc360) rfl ?_
      refine WL.move (v := .bool true) rfl ?_
      obtain ⟨x361, hxx361, hf⟩ := bindE hf
      refine WL.call (vs := []) hs FN10 trivial (fun ok hA => eslaw38_awake.calls hxx361) ?_ (hg := (wanted_of rfl rfl rfl).trans rfl)
      rintro _ w hs
      refine WL.pickT (v := .bool x361) rfl rfl ?_
      refine WL.assign (v := .bool x361) rfl ?_
      refine WL.nil ?_
      exact Jk352 x361 _ _ rfl ((hs.mask []).pick []) hf }
      {
      refine WL.loadN (vs := [.slice a11 (x10.Operations).length c13]) hs 0 rfl TI24 h344_11 rfl rfl ?_ (hg := (wanted_of rfl rfl (bool_tr rfl hc360)).trans rfl)
      refine WL.move (v := .int .i64 x23) h344_3 ?_ (hg := (wanted_of rfl rfl (bool_tr rfl hc360)).trans rfl)
      refine WL.move (v := .int .i64 x21) h344_2 ?_ (hg := (wanted_of rfl rfl (bool_tr rfl hc360)).trans rfl)
      have hs := hs.add (it := vl t_history_History (⟨x10.Operations⟩ : history_History) (.agg [.slice a11 (x10.Operations).length c13].toArray)) fun ok hA => V_agg ((R_one (hA.get 3 rfl))) rfl
      obtain ⟨x362, hxx362, hf⟩ := bindE hf
      refine WL.call (vs := [.agg ([.slice a11 (x10.Operations).length c13] : List Value).toArray, .int .i64 x23, .int .i64 x21]) hs FN15 ⟨rfl, ⟨rfl, ⟨rfl, trivial⟩⟩⟩ (fun ok hA => history_Precedes.calls (x1 := (⟨x10.Operations⟩ : history_History)) (x5 := x23) (x6 := x21) hxx362 (hA.get 0 rfl)) ?_ (hg := (wanted_of rfl rfl (bool_tr rfl hc360)).trans rfl)
      rintro _ w hs
      refine WL.pickF (v := .bool x362) (bool_tr rfl hc360) rfl ?_
      refine WL.move (v := .bool x362) rfl ?_
      rcases iteE hf with ⟨hc363, hf⟩ | ⟨hc363, hf⟩
      {
      obtain ⟨x364, hxx364, hf⟩ := bindE hf
      refine WL.call (vs := []) hs FN10 trivial (fun ok hA => eslaw38_awake.calls hxx364) ?_ (hg := (wanted_of rfl rfl (bool_tr rfl hc363)).trans rfl)
      rintro _ w hs
      refine WL.pickT (v := .bool x364) (bool_tr rfl hc363) rfl ?_
      refine WL.assign (v := .bool x364) rfl ?_
      refine WL.nil ?_
      exact Jk352 x364 _ _ rfl ((hs.mask []).pick []) hf }
      {
      refine WL.pass ((wanted_of rfl rfl (bool_tr rfl hc363)).trans rfl) rfl ?_
      refine WL.pickF (v := .bool false) (bool_tr rfl hc363) rfl ?_
      refine WL.assign (v := .bool false) rfl ?_
      refine WL.nil ?_
      exact Jk352 false _ _ rfl ((hs.mask []).pick []) hf } } } } }
    refine W.region ?_
    refine WL.loadN (vs := [.slice a11 (x10.Operations).length c13]) hs 0 rfl TI24 h340_11 rfl rfl ?_
    refine WL.move (v := .int .i64 x19) h340_1 ?_
    refine WL.move (v := .int .i64 x19) h340_1 ?_
    have hs := hs.add (it := vl t_history_History (⟨x10.Operations⟩ : history_History) (.agg [.slice a11 (x10.Operations).length c13].toArray)) fun ok hA => V_agg ((R_one (hA.get 0 rfl))) rfl
    obtain ⟨x365, hxx365, hf⟩ := bindE hf
    refine WL.call (vs := [.agg ([.slice a11 (x10.Operations).length c13] : List Value).toArray, .int .i64 x19, .int .i64 x19]) hs FN15 ⟨rfl, ⟨rfl, ⟨rfl, trivial⟩⟩⟩ (fun ok hA => history_Precedes.calls (x1 := (⟨x10.Operations⟩ : history_History)) (x5 := x19) (x6 := x19) hxx365 (hA.get 0 rfl)) ?_
    rintro _ w hs
    refine WL.move (v := .bool x365) rfl ?_
    rcases iteE hf with ⟨hc366, hf⟩ | ⟨hc366, hf⟩
    {
    refine WL.pass ((wanted_of rfl rfl (bool_tr rfl hc366)).trans rfl) rfl ?_
    refine WL.pass ((wanted_of rfl rfl (bool_tr rfl hc366)).trans rfl) rfl ?_
    refine WL.pass ((wanted_of rfl rfl (bool_tr rfl hc366)).trans rfl) rfl ?_
    refine WL.pass ((wanted_of rfl rfl (bool_tr rfl hc366)).trans rfl) rfl ?_
    refine WL.pass ((wanted_of rfl rfl (bool_tr rfl hc366)).trans rfl) rfl ?_
    refine WL.pass (wanted_undef rfl rfl rfl) rfl ?_
    refine WL.pass (wanted_undef rfl rfl rfl) rfl ?_
    refine WL.pass (wanted_undef rfl rfl rfl) rfl ?_
    refine WL.pass (wanted_undef rfl rfl rfl) rfl ?_
    refine WL.pass ((wanted_of rfl rfl (bool_tr rfl hc366)).trans rfl) rfl ?_
    refine WL.pass ((wanted_of rfl rfl (bool_tr rfl hc366)).trans rfl) rfl ?_
    refine WL.pass (wanted_undef rfl rfl rfl) rfl ?_
    refine WL.pass (wanted_undef rfl rfl rfl) rfl ?_
    refine WL.pass (wanted_undef rfl rfl rfl) rfl ?_
    refine WL.pass (wanted_undef rfl rfl rfl) rfl ?_
    refine WL.pass (wanted_undef rfl rfl rfl) rfl ?_
    refine WL.pass ((wanted_of rfl rfl (bool_tr rfl hc366)).trans rfl) rfl ?_
    refine WL.pickT (v := .bool true) (bool_tr rfl hc366) rfl ?_
    refine WL.nil ?_
    exact Jk346 true _ _ h340_1 h340_2 h340_3 h340_4 h340_11 rfl ((hs.mask [true]).pick [1]) hf }
    {
    refine WL.loadN (vs := [.slice a11 (x10.Operations).length c13]) hs 0 rfl TI24 h340_11 rfl rfl ?_ (hg := (wanted_of rfl rfl (bool_tr rfl hc366)).trans rfl)
    refine WL.move (v := .int .i64 x19) h340_1 ?_ (hg := (wanted_of rfl rfl (bool_tr rfl hc366)).trans rfl)
    refine WL.move (v := .int .i64 x21) h340_2 ?_ (hg := (wanted_of rfl rfl (bool_tr rfl hc366)).trans rfl)
    have hs := hs.add (it := vl t_history_History (⟨x10.Operations⟩ : history_History) (.agg [.slice a11 (x10.Operations).length c13].toArray)) fun ok hA => V_agg ((R_one (hA.get 1 rfl))) rfl
    obtain ⟨x367, hxx367, hf⟩ := bindE hf
    refine WL.call (vs := [.agg ([.slice a11 (x10.Operations).length c13] : List Value).toArray, .int .i64 x19, .int .i64 x21]) hs FN15 ⟨rfl, ⟨rfl, ⟨rfl, trivial⟩⟩⟩ (fun ok hA => history_Precedes.calls (x1 := (⟨x10.Operations⟩ : history_History)) (x5 := x19) (x6 := x21) hxx367 (hA.get 0 rfl)) ?_ (hg := (wanted_of rfl rfl (bool_tr rfl hc366)).trans rfl)
    rintro _ w hs
    refine WL.move (v := .bool x367) rfl ?_ (hg := (wanted_of rfl rfl (bool_tr rfl hc366)).trans rfl)
    rcases iteE hf with ⟨hc368, hf⟩ | ⟨hc368, hf⟩
    {
    refine WL.loadN (vs := [.slice a11 (x10.Operations).length c13]) hs 0 rfl TI24 h340_11 rfl rfl ?_ (hg := (wanted_of rfl rfl (bool_tr rfl hc368)).trans rfl)
    refine WL.move (v := .int .i64 x21) h340_2 ?_ (hg := (wanted_of rfl rfl (bool_tr rfl hc368)).trans rfl)
    refine WL.move (v := .int .i64 x23) h340_3 ?_ (hg := (wanted_of rfl rfl (bool_tr rfl hc368)).trans rfl)
    have hs := hs.add (it := vl t_history_History (⟨x10.Operations⟩ : history_History) (.agg [.slice a11 (x10.Operations).length c13].toArray)) fun ok hA => V_agg ((R_one (hA.get 2 rfl))) rfl
    obtain ⟨x369, hxx369, hf⟩ := bindE hf
    refine WL.call (vs := [.agg ([.slice a11 (x10.Operations).length c13] : List Value).toArray, .int .i64 x21, .int .i64 x23]) hs FN15 ⟨rfl, ⟨rfl, ⟨rfl, trivial⟩⟩⟩ (fun ok hA => history_Precedes.calls (x1 := (⟨x10.Operations⟩ : history_History)) (x5 := x21) (x6 := x23) hxx369 (hA.get 0 rfl)) ?_ (hg := (wanted_of rfl rfl (bool_tr rfl hc368)).trans rfl)
    rintro _ w hs
    refine WL.pickT (v := .bool x369) (bool_tr rfl hc368) rfl ?_ (hg := (wanted_of rfl rfl (bool_tr rfl hc366)).trans rfl)
    refine WL.move (v := .bool x369) rfl ?_ (hg := (wanted_of rfl rfl (bool_tr rfl hc366)).trans rfl)
    rcases iteE hf with ⟨hc370, hf⟩ | ⟨hc370, hf⟩
    {
    refine WL.loadN (vs := [.slice a11 (x10.Operations).length c13]) hs 0 rfl TI24 h340_11 rfl rfl ?_ (hg := (wanted_of rfl rfl (bool_tr rfl hc370)).trans rfl)
    refine WL.move (v := .int .i64 x19) h340_1 ?_ (hg := (wanted_of rfl rfl (bool_tr rfl hc370)).trans rfl)
    refine WL.move (v := .int .i64 x23) h340_3 ?_ (hg := (wanted_of rfl rfl (bool_tr rfl hc370)).trans rfl)
    have hs := hs.add (it := vl t_history_History (⟨x10.Operations⟩ : history_History) (.agg [.slice a11 (x10.Operations).length c13].toArray)) fun ok hA => V_agg ((R_one (hA.get 3 rfl))) rfl
    obtain ⟨x371, hxx371, hf⟩ := bindE hf
    refine WL.call (vs := [.agg ([.slice a11 (x10.Operations).length c13] : List Value).toArray, .int .i64 x19, .int .i64 x23]) hs FN15 ⟨rfl, ⟨rfl, ⟨rfl, trivial⟩⟩⟩ (fun ok hA => history_Precedes.calls (x1 := (⟨x10.Operations⟩ : history_History)) (x5 := x19) (x6 := x23) hxx371 (hA.get 0 rfl)) ?_ (hg := (wanted_of rfl rfl (bool_tr rfl hc370)).trans rfl)
    rintro _ w hs
    refine WL.not rfl ?_ (hg := (wanted_of rfl rfl (bool_tr rfl hc370)).trans rfl)
    refine WL.pickT (v := .bool (!x371)) (bool_tr rfl hc370) rfl ?_ (hg := (wanted_of rfl rfl (bool_tr rfl hc366)).trans rfl)
    refine WL.pickF (v := .bool (!x371)) (bool_tr rfl hc366) rfl ?_
    refine WL.nil ?_
    exact Jk346 (!x371) _ _ h340_1 h340_2 h340_3 h340_4 h340_11 rfl ((hs.mask [true]).pick [4]) hf }
    {
    refine WL.pass ((wanted_of rfl rfl (bool_tr rfl hc370)).trans rfl) rfl ?_
    refine WL.pass ((wanted_of rfl rfl (bool_tr rfl hc370)).trans rfl) rfl ?_
    refine WL.pass ((wanted_of rfl rfl (bool_tr rfl hc370)).trans rfl) rfl ?_
    refine WL.pass ((wanted_of rfl rfl (bool_tr rfl hc370)).trans rfl) rfl ?_
    refine WL.pass ((wanted_of rfl rfl (bool_tr rfl hc370)).trans rfl) rfl ?_
    refine WL.pickF (v := .bool false) (bool_tr rfl hc370) rfl ?_ (hg := (wanted_of rfl rfl (bool_tr rfl hc366)).trans rfl)
    refine WL.pickF (v := .bool false) (bool_tr rfl hc366) rfl ?_
    refine WL.nil ?_
    exact Jk346 false _ _ h340_1 h340_2 h340_3 h340_4 h340_11 rfl ((hs.mask [true]).pick [3]) hf } }
    {
    refine WL.pass ((wanted_of rfl rfl (bool_tr rfl hc368)).trans rfl) rfl ?_
    refine WL.pass ((wanted_of rfl rfl (bool_tr rfl hc368)).trans rfl) rfl ?_
    refine WL.pass ((wanted_of rfl rfl (bool_tr rfl hc368)).trans rfl) rfl ?_
    refine WL.pass ((wanted_of rfl rfl (bool_tr rfl hc368)).trans rfl) rfl ?_
    refine WL.pickF (v := .bool false) (bool_tr rfl hc368) rfl ?_ (hg := (wanted_of rfl rfl (bool_tr rfl hc366)).trans rfl)
    refine WL.move (v := .bool false) rfl ?_ (hg := (wanted_of rfl rfl (bool_tr rfl hc366)).trans rfl)
    refine WL.pass ((wanted_of rfl rfl rfl).trans rfl) rfl ?_
    refine WL.pass ((wanted_of rfl rfl rfl).trans rfl) rfl ?_
    refine WL.pass ((wanted_of rfl rfl rfl).trans rfl) rfl ?_
    refine WL.pass ((wanted_of rfl rfl rfl).trans rfl) rfl ?_
    refine WL.pass ((wanted_of rfl rfl rfl).trans rfl) rfl ?_
    refine WL.pickF (v := .bool false) rfl rfl ?_ (hg := (wanted_of rfl rfl (bool_tr rfl hc366)).trans rfl)
    refine WL.pickF (v := .bool false) (bool_tr rfl hc366) rfl ?_
    refine WL.nil ?_
    exact Jk346 false _ _ h340_1 h340_2 h340_3 h340_4 h340_11 rfl ((hs.mask [true]).pick [2]) hf } }
  refine W.seqK fun K372 hK372 => ?_
  refine W.region ?_
  refine WL.move (v := .int .i64 x19) rfl ?_
  refine WL.move (v := .int .i64 x21) rfl ?_
  refine WL.build (vs := [(0, .int .i64 x19), (1, .int .i64 x21)]) (cs := [.int .i64 x19, .int .i64 x21]) ⟨⟨rfl, rfl⟩, ⟨⟨rfl, rfl⟩, trivial⟩⟩ (bldA (places := [(0, 1), (1, 1)]) (zero := [.int .i64 0, .int .i64 0]) UN37 TI3 ZA37 rfl rfl rfl) ?_
  refine WL.move (v := .int .i64 x21) rfl ?_
  refine WL.move (v := .int .i64 x19) rfl ?_
  refine WL.build (vs := [(0, .int .i64 x21), (1, .int .i64 x19)]) (cs := [.int .i64 x21, .int .i64 x19]) ⟨⟨rfl, rfl⟩, ⟨⟨rfl, rfl⟩, trivial⟩⟩ (bldA (places := [(0, 1), (1, 1)]) (zero := [.int .i64 0, .int .i64 0]) UN37 TI3 ZA37 rfl rfl rfl) ?_
  refine WL.move (v := .int .i64 x19) rfl ?_
  refine WL.move (v := .int .i64 x19) rfl ?_
  refine WL.build (vs := [(0, .int .i64 x19), (1, .int .i64 x19)]) (cs := [.int .i64 x19, .int .i64 x19]) ⟨⟨rfl, rfl⟩, ⟨⟨rfl, rfl⟩, trivial⟩⟩ (bldA (places := [(0, 1), (1, 1)]) (zero := [.int .i64 0, .int .i64 0]) UN37 TI3 ZA37 rfl rfl rfl) ?_
  refine WL.move (v := .int .i64 x23) rfl ?_
  refine WL.move (v := .int .i64 x25) rfl ?_
  refine WL.build (vs := [(0, .int .i64 x23), (1, .int .i64 x25)]) (cs := [.int .i64 x23, .int .i64 x25]) ⟨⟨rfl, rfl⟩, ⟨⟨rfl, rfl⟩, trivial⟩⟩ (bldA (places := [(0, 1), (1, 1)]) (zero := [.int .i64 0, .int .i64 0]) UN37 TI3 ZA37 rfl rfl rfl) ?_
  refine WL.move (v := .int .i64 x21) rfl ?_
  refine WL.move (v := .int .i64 x23) rfl ?_
  refine WL.build (vs := [(0, .int .i64 x21), (1, .int .i64 x23)]) (cs := [.int .i64 x21, .int .i64 x23]) ⟨⟨rfl, rfl⟩, ⟨⟨rfl, rfl⟩, trivial⟩⟩ (bldA (places := [(0, 1), (1, 1)]) (zero := [.int .i64 0, .int .i64 0]) UN37 TI3 ZA37 rfl rfl rfl) ?_
  refine WL.buildSlice (n := 5) (vs := [(0, .agg ([.int .i64 x19, .int .i64 x21] : List Value).toArray), (1, .agg ([.int .i64 x21, .int .i64 x19] : List Value).toArray), (2, .agg ([.int .i64 x19, .int .i64 x19] : List Value).toArray), (3, .agg ([.int .i64 x23, .int .i64 x25] : List Value).toArray), (4, .agg ([.int .i64 x21, .int .i64 x23] : List Value).toArray)]) (cs := [.int .i64 x19, .int .i64 x21, .int .i64 x21, .int .i64 x19, .int .i64 x19, .int .i64 x19, .int .i64 x23, .int .i64 x25, .int .i64 x21, .int .i64 x23]) hs ⟨⟨rfl, rfl⟩, ⟨⟨rfl, rfl⟩, ⟨⟨rfl, rfl⟩, ⟨⟨rfl, rfl⟩, ⟨⟨rfl, rfl⟩, trivial⟩⟩⟩⟩⟩ (bls PS38 (by decide) rfl) (fun g373 w hs => ?_)
  refine WL.len (v := .slice (some ⟨g373, 0, none⟩) ([(⟨x19, x21⟩ : Anon37), (⟨x21, x19⟩ : Anon37), (⟨x19, x19⟩ : Anon37), (⟨x23, x25⟩ : Anon37), (⟨x21, x23⟩ : Anon37)]).length 5) rfl (len_slice UN38) ?_
  refine WL.move (v := .int .i64 0) rfl ?_
  refine WL.nil ?_
  refine hK372 _ _ ?_
  refine W.block ?_
  have hs := hs.ownLit (A := t_Anon37) (xs := [(⟨x19, x21⟩ : Anon37), (⟨x21, x19⟩ : Anon37), (⟨x19, x19⟩ : Anon37), (⟨x23, x25⟩ : Anon37), (⟨x21, x23⟩ : Anon37)]) 0 rfl (fun ok hA => (Cells.app (Cells.one (T := t_Anon37) (show t_Anon37.R ok _ (⟨x19, x21⟩ : Anon37) _ from ⟨[.int .i64 x19], [.int .i64 x21], rfl, rfl, rfl⟩)) (Cells.app (Cells.one (T := t_Anon37) (show t_Anon37.R ok _ (⟨x21, x19⟩ : Anon37) _ from ⟨[.int .i64 x21], [.int .i64 x19], rfl, rfl, rfl⟩)) (Cells.app (Cells.one (T := t_Anon37) (show t_Anon37.R ok _ (⟨x19, x19⟩ : Anon37) _ from ⟨[.int .i64 x19], [.int .i64 x19], rfl, rfl, rfl⟩)) (Cells.app (Cells.one (T := t_Anon37) (show t_Anon37.R ok _ (⟨x23, x25⟩ : Anon37) _ from ⟨[.int .i64 x23], [.int .i64 x25], rfl, rfl, rfl⟩)) (Cells.one (T := t_Anon37) (show t_Anon37.R ok _ (⟨x21, x23⟩ : Anon37) _ from ⟨[.int .i64 x21], [.int .i64 x23], rfl, rfl, rfl⟩))))))) (Nat.le_of_ble_eq_true rfl)
  have hs := hs.freezeOwn 0 rfl
  obtain ⟨bs376, hbs376, hfs376⟩ := bindE hf
  refine W.loop hbs376 (fun s ρ w => match s with | x375 => ρ 1 = .int .i64 x19 ∧ ρ 2 = .int .i64 x21 ∧ ρ 3 = .int .i64 x23 ∧ ρ 4 = .int .i64 x25 ∧ ρ 11 = .pointer (some ⟨g14, 0, none⟩) ∧ ρ 52 = .slice (some ⟨g373, 0, none⟩) ([(⟨x19, x21⟩ : Anon37), (⟨x21, x19⟩ : Anon37), (⟨x19, x19⟩ : Anon37), (⟨x23, x25⟩ : Anon37), (⟨x21, x23⟩ : Anon37)]).length 5 ∧ ρ 53 = .int .i64 (([(⟨x19, x21⟩ : Anon37), (⟨x21, x19⟩ : Anon37), (⟨x19, x19⟩ : Anon37), (⟨x23, x25⟩ : Anon37), (⟨x21, x23⟩ : Anon37)]).length : Int) ∧ ρ 54 = .int .i64 x375 ∧ St ok (bz w0) w [vl (tSlice t_Anon37) [(⟨x19, x21⟩ : Anon37), (⟨x21, x19⟩ : Anon37), (⟨x19, x19⟩ : Anon37), (⟨x23, x25⟩ : Anon37), (⟨x21, x23⟩ : Anon37)] (.slice (some ⟨g373, 0, none⟩) ([(⟨x19, x21⟩ : Anon37), (⟨x21, x19⟩ : Anon37), (⟨x19, x19⟩ : Anon37), (⟨x23, x25⟩ : Anon37), (⟨x21, x23⟩ : Anon37)]).length 5), vl (tSlice t_history_Operation) x10.Operations (.slice a11 (x10.Operations).length c13)] [blk g14 24 [.slice a11 (x10.Operations).length c13]]) ⟨rfl, rfl, rfl, rfl, rfl, rfl, rfl, rfl, (hs.mask [true]).pick [0, 1]⟩ ?_
  intro x375 ρ w os376 hI hf hbbs376
  obtain ⟨h374_1, h374_2, h374_3, h374_4, h374_11, h374_52, h374_53, h374_54, hs⟩ := hI
  unfold eslaw38_HistoryOrder.l1 at hf
  refine W.seqK fun K377 hK377 => ?_
  refine W.region ?_
  refine WL.bin (v := .bool (decide (x375 < (([(⟨x19, x21⟩ : Anon37), (⟨x21, x19⟩ : Anon37), (⟨x19, x19⟩ : Anon37), (⟨x23, x25⟩ : Anon37), (⟨x21, x23⟩ : Anon37)]).length : Int)))) h374_54 h374_53 (ib_lss _ _ _) ?_
  refine WL.nil ?_
  refine hK377 _ _ ?_
  refine W.seqK fun K378 hK378 => ?_
  rcases iteE hf with ⟨hc379, hf⟩ | ⟨hc379, hf⟩
  {
  refine W.cond_true (bool_tr rfl hc379) ?_
  refine W.skip ?_
  refine hK378 _ _ ?_
  refine W.seqK fun K380 hK380 => ?_
  refine W.block ?_
  refine W.seqK fun K381 hK381 => ?_
  refine W.region ?_
  obtain ⟨x382, hxx382, hf⟩ := bindE hf
  refine WL.indexAddr hs 0 rfl UN38 TI37 h374_52 h374_54 hxx382 (fun ad383 hs => ?_)
  refine WL.loadP hs 0 rfl TI37 (.inl rfl) rfl (fun v384 hs => ?_)
  obtain ⟨cs385, hl386, rfl⟩ := hs.aggv (n := 2) 0 rfl rfl rfl
  refine WL.alloc hs ZV37 (fun g387 w hs => ?_)
  refine WL.storeAll (vs := cs385) hs 0 rfl TI37 rfl rfl rfl hl386 (hs.ones 0 rfl rfl) rfl (fun w hs => ?_)
  refine WL.nil ?_
  refine hK381 _ _ ?_
  refine W.seqK fun K388 hK388 => ?_
  have Jk391 : ∀ (x390 : Bool) (ρ : Env) (w : World), ρ 1 = .int .i64 x19 → ρ 2 = .int .i64 x21 → ρ 3 = .int .i64 x23 → ρ 4 = .int .i64 x25 → ρ 11 = .pointer (some ⟨g14, 0, none⟩) → ρ 52 = .slice (some ⟨g373, 0, none⟩) ([(⟨x19, x21⟩ : Anon37), (⟨x21, x19⟩ : Anon37), (⟨x19, x19⟩ : Anon37), (⟨x23, x25⟩ : Anon37), (⟨x21, x23⟩ : Anon37)]).length 5 → ρ 53 = .int .i64 (([(⟨x19, x21⟩ : Anon37), (⟨x21, x19⟩ : Anon37), (⟨x19, x19⟩ : Anon37), (⟨x23, x25⟩ : Anon37), (⟨x21, x23⟩ : Anon37)]).length : Int) → ρ 54 = .int .i64 x375 → ρ 85 = .bool x390 → St ok (bz w0) w [vl (tSlice t_Anon37) [(⟨x19, x21⟩ : Anon37), (⟨x21, x19⟩ : Anon37), (⟨x19, x19⟩ : Anon37), (⟨x23, x25⟩ : Anon37), (⟨x21, x23⟩ : Anon37)] (.slice (some ⟨g373, 0, none⟩) ([(⟨x19, x21⟩ : Anon37), (⟨x21, x19⟩ : Anon37), (⟨x19, x19⟩ : Anon37), (⟨x23, x25⟩ : Anon37), (⟨x21, x23⟩ : Anon37)]).length 5), vl (tSlice t_history_Operation) x10.Operations (.slice a11 (x10.Operations).length c13)] [blk g14 24 [.slice a11 (x10.Operations).length c13]] → eslaw38_HistoryOrder.j4 x375 x390 = some os376 → K388 ρ w := by
    intro x390 ρ w h389_1 h389_2 h389_3 h389_4 h389_11 h389_52 h389_53 h389_54 h389_85 hs hf
    refine hK388 _ _ ?_
    unfold eslaw38_HistoryOrder.j4 at hf
    rcases iteE hf with ⟨hc392, hf⟩ | ⟨hc392, hf⟩
    {
    refine W.cond_true (bool_tr h389_85 hc392) ?_
    refine W.seqK fun K393 hK393 => ?_
    refine W.region ?_
    refine WL.assign (v := .bool false) rfl ?_
    refine WL.nil ?_
    refine hK393 _ _ ?_
    refine W.ret ?_
    have hr := Option.some.inj hf; subst hr
    have hr := hbbs376 _ rfl; subst hr
    have hf := hfs376
    have hr := Option.some.inj hf; subst hr
    exact ⟨_, resOk_one rfl rfl, (), rfl, (hs.mask []).pick []⟩ }
    {
    refine W.cond_false (bool_tr h389_85 hc392) ?_
    refine W.skip ?_
    refine hK380 _ _ ?_
    refine W.region ?_
    obtain ⟨x394, ex394, hf⟩ := letE hf
    refine WL.bin (v := .int .i64 x394) h389_54 rfl (ib_as ex394 (ib_add _ _ _)) ?_
    refine WL.move (v := .int .i64 x394) rfl ?_
    refine WL.nil ?_
    exact ⟨_, (Option.some.inj hf).symm, h389_1, h389_2, h389_3, h389_4, h389_11, h389_52, h389_53, rfl, (hs.mask [true]).pick [0, 1]⟩ }
  obtain ⟨x397, hxx397, hf⟩ := bindE hf
  obtain ⟨x400, hxx400, hf⟩ := bindE hf
  rcases iteE hf with ⟨hc401, hf⟩ | ⟨hc401, hf⟩
  {
  refine W.any (by kernel_rfl) 28 0 [true, true, true, true, true, true, true, true, true, true, true, true, true, true, true, true, true, true, true, true, true, true, true, true, true, true, true, true] rfl rfl (poAt [pv (.agg ([.slice a11 (x10.Operations).length c13] : List Value).toArray), pv (.pointer (some ⟨g387, 0, none⟩)), pv (.int .i64 x382.E0), pv (.pointer (some ⟨g387, 1, none⟩)), pv (.int .i64 x382.E1), pv (.bool x397), pv (.agg ([.slice a11 (x10.Operations).length c13] : List Value).toArray), pv (.pointer (some ⟨g387, 0, none⟩)), pv (.int .i64 x382.E0), pv (.pointer (some ⟨g387, 1, none⟩)), pv (.int .i64 x382.E1), pv (.bool x400), pv (.bool (x397 != x400)), pv (.bool (x397 != x400)), pv (undef), pv (undef), pv (undef), pv (undef), pv (undef), pv (undef), pv (undef), pv (undef), pv (undef), pv (undef), pv (undef), pv (undef), pv (undef), pv (.bool true)]) (Λ := [blk g387 37 cs385, blk g14 24 [.slice a11 (x10.Operations).length c13]]) hs (by kernel_rfl) (by kernel_rfl) (by kernel_rfl) ⟨⟨⟨⟨⟨⟨⟨⟨⟨⟨⟨⟨⟨⟨⟨⟨⟨⟨⟨⟨⟨⟨⟨⟨⟨⟨⟨⟨trivial, ?_⟩, ?_⟩, ?_⟩, ?_⟩, ?_⟩, ?_⟩, ?_⟩, ?_⟩, ?_⟩, ?_⟩, ?_⟩, ?_⟩, ?_⟩, ?_⟩, ?_⟩, ?_⟩, ?_⟩, ?_⟩, ?_⟩, ?_⟩, ?_⟩, ?_⟩, ?_⟩, ?_⟩, ?_⟩, ?_⟩, ?_⟩, ?_⟩ ?_
  {
  intro ρ w Γx Λx hs hu hp
  refine WL.loadN (vs := [.slice a11 (x10.Operations).length c13]) hs (Λx.length + 1) (getApp rfl) TI24 ((hu 11 rfl).trans h374_11) rfl rfl ?_
  exact WL.nil ⟨rfl, _, rfl, rfl, hs.cutG 0 0⟩ }
  {
  intro ρ w Γx Λx hs hu hp
  refine WL.indexAddrA (m := 0) (hu 14 rfl) rfl UN37 TI3 (by decide) rfl ?_
  exact WL.nil ⟨rfl, _, rfl, rfl, hs.cutG 0 0⟩ }
  {
  intro ρ w Γx Λx hs hu hp
  have e402 : ρ 59 = .pointer (some ⟨g387, 0, none⟩) := (hp 1 rfl).1
  refine WL.loadF (z := x382.E0) F_Anon37_E0 hs (Λx.length + 0) (getApp rfl) (Γx.length + 0) (getApp rfl) rfl TI3 (.inr rfl) e402 rfl (fun v395 hs => ?_)
  obtain rfl := hs.int 0 rfl
  exact WL.nil ⟨rfl, _, rfl, rfl, hs.cutG 0 1⟩ }
  {
  intro ρ w Γx Λx hs hu hp
  refine WL.indexAddrA (m := 1) (hu 14 rfl) rfl UN37 TI3 (by decide) rfl ?_
  exact WL.nil ⟨rfl, _, rfl, rfl, hs.cutG 0 0⟩ }
  {
  intro ρ w Γx Λx hs hu hp
  have e403 : ρ 61 = .pointer (some ⟨g387, 1, none⟩) := (hp 3 rfl).1
  refine WL.loadF (z := x382.E1) F_Anon37_E1 hs (Λx.length + 0) (getApp rfl) (Γx.length + 0) (getApp rfl) rfl TI3 (.inr rfl) e403 rfl (fun v396 hs => ?_)
  obtain rfl := hs.int 0 rfl
  exact WL.nil ⟨rfl, _, rfl, rfl, hs.cutG 0 1⟩ }
  {
  intro ρ w Γx Λx hs hu hp
  have e404 : ρ 58 = .agg ([.slice a11 (x10.Operations).length c13] : List Value).toArray := (hp 0 rfl).1
  have e405 : ρ 60 = .int .i64 x382.E0 := (hp 2 rfl).1
  have e406 : ρ 62 = .int .i64 x382.E1 := (hp 4 rfl).1
  have hs := hs.add (it := vl t_history_History (⟨x10.Operations⟩ : history_History) (.agg [.slice a11 (x10.Operations).length c13].toArray)) fun ok hA => V_agg ((R_one (hA.get (Γx.length + 3) (getApp rfl)))) rfl
  refine WL.call (vs := [.agg ([.slice a11 (x10.Operations).length c13] : List Value).toArray, .int .i64 x382.E0, .int .i64 x382.E1]) hs FN15 ⟨e404, ⟨e405, ⟨e406, trivial⟩⟩⟩ (fun ok hA => history_Precedes.calls (x1 := (⟨x10.Operations⟩ : history_History)) (x5 := x382.E0) (x6 := x382.E1) hxx397 (hA.get 0 rfl)) ?_
  rintro _ w hs
  exact WL.nil ⟨rfl, _, rfl, rfl, hs.cutG 0 1⟩ }
  {
  intro ρ w Γx Λx hs hu hp
  refine WL.loadN (vs := [.slice a11 (x10.Operations).length c13]) hs (Λx.length + 1) (getApp rfl) TI24 ((hu 11 rfl).trans h374_11) rfl rfl ?_
  exact WL.nil ⟨rfl, _, rfl, rfl, hs.cutG 0 0⟩ }
  {
  intro ρ w Γx Λx hs hu hp
  refine WL.indexAddrA (m := 0) (hu 14 rfl) rfl UN37 TI3 (by decide) rfl ?_
  exact WL.nil ⟨rfl, _, rfl, rfl, hs.cutG 0 0⟩ }
  {
  intro ρ w Γx Λx hs hu hp
  have e407 : ρ 65 = .pointer (some ⟨g387, 0, none⟩) := (hp 7 rfl).1
  refine WL.loadF (z := x382.E0) F_Anon37_E0 hs (Λx.length + 0) (getApp rfl) (Γx.length + 0) (getApp rfl) rfl TI3 (.inr rfl) e407 rfl (fun v398 hs => ?_)
  obtain rfl := hs.int 0 rfl
  exact WL.nil ⟨rfl, _, rfl, rfl, hs.cutG 0 1⟩ }
  {
  intro ρ w Γx Λx hs hu hp
  refine WL.indexAddrA (m := 1) (hu 14 rfl) rfl UN37 TI3 (by decide) rfl ?_
  exact WL.nil ⟨rfl, _, rfl, rfl, hs.cutG 0 0⟩ }
  {
  intro ρ w Γx Λx hs hu hp
  have e408 : ρ 67 = .pointer (some ⟨g387, 1, none⟩) := (hp 9 rfl).1
  refine WL.loadF (z := x382.E1) F_Anon37_E1 hs (Λx.length + 0) (getApp rfl) (Γx.length + 0) (getApp rfl) rfl TI3 (.inr rfl) e408 rfl (fun v399 hs => ?_)
  obtain rfl := hs.int 0 rfl
  exact WL.nil ⟨rfl, _, rfl, rfl, hs.cutG 0 1⟩ }
  {
  intro ρ w Γx Λx hs hu hp
  have e409 : ρ 64 = .agg ([.slice a11 (x10.Operations).length c13] : List Value).toArray := (hp 6 rfl).1
  have e410 : ρ 66 = .int .i64 x382.E0 := (hp 8 rfl).1
  have e411 : ρ 68 = .int .i64 x382.E1 := (hp 10 rfl).1
  have hs := hs.add (it := vl t_history_History (⟨x10.Operations⟩ : history_History) (.agg [.slice a11 (x10.Operations).length c13].toArray)) fun ok hA => V_agg ((R_one (hA.get (Γx.length + 3) (getApp rfl)))) rfl
  refine WL.call (vs := [.agg ([.slice a11 (x10.Operations).length c13] : List Value).toArray, .int .i64 x382.E0, .int .i64 x382.E1]) hs FN16 ⟨e409, ⟨e410, ⟨e411, trivial⟩⟩⟩ (fun ok hA => esref39_Precedes.calls (x1 := (⟨x10.Operations⟩ : history_History)) (x5 := x382.E0) (x6 := x382.E1) hxx400 (hA.get 0 rfl)) ?_
  rintro _ w hs
  exact WL.nil ⟨rfl, _, rfl, rfl, hs.cutG 0 1⟩ }
  {
  intro ρ w Γx Λx hs hu hp
  have e412 : ρ 63 = .bool x397 := (hp 5 rfl).1
  have e413 : ρ 69 = .bool x400 := (hp 11 rfl).1
  refine WL.neB UN4 e412 e413 ?_
  exact WL.nil ⟨rfl, _, rfl, rfl, hs.cutG 0 0⟩ }
  {
  intro ρ w Γx Λx hs hu hp
  have e414 : ρ 70 = .bool (x397 != x400) := (hp 12 rfl).1
  refine WL.move (v := .bool (x397 != x400)) e414 ?_
  exact WL.nil ⟨rfl, _, rfl, rfl, hs.cutG 0 0⟩ }
  {
  intro ρ w Γx Λx hs hu hp
  have e415 : ρ 71 = .bool (x397 != x400) := (hp 13 rfl).1
  refine WL.pass ((wanted_of rfl rfl (bool_tr e415 hc401)).trans rfl) rfl ?_
  exact WL.nil ⟨rfl, _, rfl, rfl, hs.cutG 0 0⟩ }
  {
  intro ρ w Γx Λx hs hu hp
  have e416 : ρ 71 = .bool (x397 != x400) := (hp 13 rfl).1
  refine WL.pass ((wanted_of rfl rfl (bool_tr e416 hc401)).trans rfl) rfl ?_
  exact WL.nil ⟨rfl, _, rfl, rfl, hs.cutG 0 0⟩ }
  {
  intro ρ w Γx Λx hs hu hp
  have e417 : ρ 73 = undef := (hp 15 rfl).1
  have e418 : ρ 71 = .bool (x397 != x400) := (hp 13 rfl).1
  refine WL.pass ((wanted_of rfl rfl (bool_tr e418 hc401)).trans rfl) rfl ?_
  exact WL.nil ⟨rfl, _, rfl, rfl, hs.cutG 0 0⟩ }
  {
  intro ρ w Γx Λx hs hu hp
  have e419 : ρ 71 = .bool (x397 != x400) := (hp 13 rfl).1
  refine WL.pass ((wanted_of rfl rfl (bool_tr e419 hc401)).trans rfl) rfl ?_
  exact WL.nil ⟨rfl, _, rfl, rfl, hs.cutG 0 0⟩ }
  {
  intro ρ w Γx Λx hs hu hp
  have e420 : ρ 75 = undef := (hp 17 rfl).1
  have e421 : ρ 71 = .bool (x397 != x400) := (hp 13 rfl).1
  refine WL.pass ((wanted_of rfl rfl (bool_tr e421 hc401)).trans rfl) rfl ?_
  exact WL.nil ⟨rfl, _, rfl, rfl, hs.cutG 0 0⟩ }
  {
  intro ρ w Γx Λx hs hu hp
  have e422 : ρ 72 = undef := (hp 14 rfl).1
  have e423 : ρ 74 = undef := (hp 16 rfl).1
  have e424 : ρ 76 = undef := (hp 18 rfl).1
  have e425 : ρ 71 = .bool (x397 != x400) := (hp 13 rfl).1
  refine WL.pass ((wanted_of rfl rfl (bool_tr e425 hc401)).trans rfl) rfl ?_
  exact WL.nil ⟨rfl, _, rfl, rfl, hs.cutG 0 0⟩ }
  {
  intro ρ w Γx Λx hs hu hp
  have e426 : ρ 71 = .bool (x397 != x400) := (hp 13 rfl).1
  refine WL.pass ((wanted_of rfl rfl (bool_tr e426 hc401)).trans rfl) rfl ?_
  exact WL.nil ⟨rfl, _, rfl, rfl, hs.cutG 0 0⟩ }
  {
  intro ρ w Γx Λx hs hu hp
  have e427 : ρ 71 = .bool (x397 != x400) := (hp 13 rfl).1
  refine WL.pass ((wanted_of rfl rfl (bool_tr e427 hc401)).trans rfl) rfl ?_
  exact WL.nil ⟨rfl, _, rfl, rfl, hs.cutG 0 0⟩ }
  {
  intro ρ w Γx Λx hs hu hp
  have e428 : ρ 79 = undef := (hp 21 rfl).1
  have e429 : ρ 71 = .bool (x397 != x400) := (hp 13 rfl).1
  refine WL.pass ((wanted_of rfl rfl (bool_tr e429 hc401)).trans rfl) rfl ?_
  exact WL.nil ⟨rfl, _, rfl, rfl, hs.cutG 0 0⟩ }
  {
  intro ρ w Γx Λx hs hu hp
  have e430 : ρ 71 = .bool (x397 != x400) := (hp 13 rfl).1
  refine WL.pass ((wanted_of rfl rfl (bool_tr e430 hc401)).trans rfl) rfl ?_
  exact WL.nil ⟨rfl, _, rfl, rfl, hs.cutG 0 0⟩ }
  {
  intro ρ w Γx Λx hs hu hp
  have e431 : ρ 81 = undef := (hp 23 rfl).1
  have e432 : ρ 71 = .bool (x397 != x400) := (hp 13 rfl).1
  refine WL.pass ((wanted_of rfl rfl (bool_tr e432 hc401)).trans rfl) rfl ?_
  exact WL.nil ⟨rfl, _, rfl, rfl, hs.cutG 0 0⟩ }
  {
  intro ρ w Γx Λx hs hu hp
  have e433 : ρ 78 = undef := (hp 20 rfl).1
  have e434 : ρ 80 = undef := (hp 22 rfl).1
  have e435 : ρ 82 = undef := (hp 24 rfl).1
  have e436 : ρ 71 = .bool (x397 != x400) := (hp 13 rfl).1
  refine WL.pass ((wanted_of rfl rfl (bool_tr e436 hc401)).trans rfl) rfl ?_
  exact WL.nil ⟨rfl, _, rfl, rfl, hs.cutG 0 0⟩ }
  {
  intro ρ w Γx Λx hs hu hp
  have e437 : ρ 77 = undef := (hp 19 rfl).1
  have e438 : ρ 83 = undef := (hp 25 rfl).1
  have e439 : ρ 71 = .bool (x397 != x400) := (hp 13 rfl).1
  refine WL.pass ((wanted_of rfl rfl (bool_tr e439 hc401)).trans rfl) rfl ?_
  exact WL.nil ⟨rfl, _, rfl, rfl, hs.cutG 0 0⟩ }
  {
  intro ρ w Γx Λx hs hu hp
  have e440 : ρ 71 = .bool (x397 != x400) := (hp 13 rfl).1
  have e441 : ρ 84 = undef := (hp 26 rfl).1
  refine WL.pickT (v := .bool true) (bool_tr e440 hc401) rfl ?_
  exact WL.nil ⟨rfl, _, rfl, rfl, hs.cutG 0 0⟩ }
  {
  intro ρ w hs hu442 hp
  obtain ⟨⟨⟨⟨⟨⟨⟨⟨⟨⟨⟨⟨⟨⟨⟨⟨⟨⟨⟨⟨⟨⟨⟨⟨⟨⟨⟨⟨_, hp0_⟩, hp1_⟩, hp2_⟩, hp3_⟩, hp4_⟩, hp5_⟩, hp6_⟩, hp7_⟩, hp8_⟩, hp9_⟩, hp10_⟩, hp11_⟩, hp12_⟩, hp13_⟩, hp14_⟩, hp15_⟩, hp16_⟩, hp17_⟩, hp18_⟩, hp19_⟩, hp20_⟩, hp21_⟩, hp22_⟩, hp23_⟩, hp24_⟩, hp25_⟩, hp26_⟩, hp27_⟩ := hp
  have hs : St ok (bz w0) w [vl t_Anon37 x382 (.agg cs385.toArray), pl t_Anon37 x382 ad383, vl (tSlice t_Anon37) [(⟨x19, x21⟩ : Anon37), (⟨x21, x19⟩ : Anon37), (⟨x19, x19⟩ : Anon37), (⟨x23, x25⟩ : Anon37), (⟨x21, x23⟩ : Anon37)] (.slice (some ⟨g373, 0, none⟩) ([(⟨x19, x21⟩ : Anon37), (⟨x21, x19⟩ : Anon37), (⟨x19, x19⟩ : Anon37), (⟨x23, x25⟩ : Anon37), (⟨x21, x23⟩ : Anon37)]).length 5), vl (tSlice t_history_Operation) x10.Operations (.slice a11 (x10.Operations).length c13)] [blk g387 37 cs385, blk g14 24 [.slice a11 (x10.Operations).length c13]] := hs
  have e443 : ρ 85 = .bool true := hp27_
  have e444 : ρ 84 = undef := hp26_
  have e445 : ρ 83 = undef := hp25_
  have e446 : ρ 82 = undef := hp24_
  have e447 : ρ 81 = undef := hp23_
  have e448 : ρ 80 = undef := hp22_
  have e449 : ρ 79 = undef := hp21_
  have e450 : ρ 78 = undef := hp20_
  have e451 : ρ 77 = undef := hp19_
  have e452 : ρ 76 = undef := hp18_
  have e453 : ρ 75 = undef := hp17_
  have e454 : ρ 74 = undef := hp16_
  have e455 : ρ 73 = undef := hp15_
  have e456 : ρ 72 = undef := hp14_
  have e457 : ρ 71 = .bool (x397 != x400) := hp13_
  have e458 : ρ 70 = .bool (x397 != x400) := hp12_
  have e459 : ρ 69 = .bool x400 := hp11_
  have e460 : ρ 68 = .int .i64 x382.E1 := hp10_
  have e461 : ρ 67 = .pointer (some ⟨g387, 1, none⟩) := hp9_
  have e462 : ρ 66 = .int .i64 x382.E0 := hp8_
  have e463 : ρ 65 = .pointer (some ⟨g387, 0, none⟩) := hp7_
  have e464 : ρ 64 = .agg ([.slice a11 (x10.Operations).length c13] : List Value).toArray := hp6_
  have e465 : ρ 63 = .bool x397 := hp5_
  have e466 : ρ 62 = .int .i64 x382.E1 := hp4_
  have e467 : ρ 61 = .pointer (some ⟨g387, 1, none⟩) := hp3_
  have e468 : ρ 60 = .int .i64 x382.E0 := hp2_
  have e469 : ρ 59 = .pointer (some ⟨g387, 0, none⟩) := hp1_
  have e470 : ρ 58 = .agg ([.slice a11 (x10.Operations).length c13] : List Value).toArray := hp0_
  refine WA.done (by kernel_rfl) ?_
  exact Jk391 true _ _ ((hu442 1 rfl).trans h374_1) ((hu442 2 rfl).trans h374_2) ((hu442 3 rfl).trans h374_3) ((hu442 4 rfl).trans h374_4) ((hu442 11 rfl).trans h374_11) ((hu442 52 rfl).trans h374_52) ((hu442 53 rfl).trans h374_53) ((hu442 54 rfl).trans h374_54) e443 ((hs.mask [false, true]).pick [2, 3]) hf } }
  {
  obtain ⟨x473, hxx473, hf⟩ := bindE hf
  obtain ⟨x476, hxx476, hf⟩ := bindE hf
  refine W.any (by kernel_rfl) 28 0 [true, true, true, true, true, true, true, true, true, true, true, true, true, true, true, true, true, true, true, true, true, true, true, true, true, true, true, true] rfl rfl (poAt [pv (.agg ([.slice a11 (x10.Operations).length c13] : List Value).toArray), pv (.pointer (some ⟨g387, 0, none⟩)), pv (.int .i64 x382.E0), pv (.pointer (some ⟨g387, 1, none⟩)), pv (.int .i64 x382.E1), pv (.bool x397), pv (.agg ([.slice a11 (x10.Operations).length c13] : List Value).toArray), pv (.pointer (some ⟨g387, 0, none⟩)), pv (.int .i64 x382.E0), pv (.pointer (some ⟨g387, 1, none⟩)), pv (.int .i64 x382.E1), pv (.bool x400), pv (.bool (x397 != x400)), pv (.bool (x397 != x400)), pv (.agg ([.slice a11 (x10.Operations).length c13] : List Value).toArray), pv (.pointer (some ⟨g387, 0, none⟩)), pv (.int .i64 x382.E0), pv (.pointer (some ⟨g387, 1, none⟩)), pv (.int .i64 x382.E1), pv (.bool x473), pv (.agg ([.slice a11 (x10.Operations).length c13] : List Value).toArray), pv (.pointer (some ⟨g387, 0, none⟩)), pv (.int .i64 x382.E0), pv (.pointer (some ⟨g387, 1, none⟩)), pv (.int .i64 x382.E1), pv (.bool x476), pv (.bool (x473 != x476)), pv (.bool (x473 != x476))]) (Λ := [blk g387 37 cs385, blk g14 24 [.slice a11 (x10.Operations).length c13]]) hs (by kernel_rfl) (by kernel_rfl) (by kernel_rfl) ⟨⟨⟨⟨⟨⟨⟨⟨⟨⟨⟨⟨⟨⟨⟨⟨⟨⟨⟨⟨⟨⟨⟨⟨⟨⟨⟨⟨trivial, ?_⟩, ?_⟩, ?_⟩, ?_⟩, ?_⟩, ?_⟩, ?_⟩, ?_⟩, ?_⟩, ?_⟩, ?_⟩, ?_⟩, ?_⟩, ?_⟩, ?_⟩, ?_⟩, ?_⟩, ?_⟩, ?_⟩, ?_⟩, ?_⟩, ?_⟩, ?_⟩, ?_⟩, ?_⟩, ?_⟩, ?_⟩, ?_⟩ ?_
  {
  intro ρ w Γx Λx hs hu hp
  refine WL.loadN (vs := [.slice a11 (x10.Operations).length c13]) hs (Λx.length + 1) (getApp rfl) TI24 ((hu 11 rfl).trans h374_11) rfl rfl ?_
  exact WL.nil ⟨rfl, _, rfl, rfl, hs.cutG 0 0⟩ }
  {
  intro ρ w Γx Λx hs hu hp
  refine WL.indexAddrA (m := 0) (hu 14 rfl) rfl UN37 TI3 (by decide) rfl ?_
  exact WL.nil ⟨rfl, _, rfl, rfl, hs.cutG 0 0⟩ }
  {
  intro ρ w Γx Λx hs hu hp
  have e477 : ρ 59 = .pointer (some ⟨g387, 0, none⟩) := (hp 1 rfl).1
  refine WL.loadF (z := x382.E0) F_Anon37_E0 hs (Λx.length + 0) (getApp rfl) (Γx.length + 0) (getApp rfl) rfl TI3 (.inr rfl) e477 rfl (fun v395 hs => ?_)
  obtain rfl := hs.int 0 rfl
  exact WL.nil ⟨rfl, _, rfl, rfl, hs.cutG 0 1⟩ }
  {
  intro ρ w Γx Λx hs hu hp
  refine WL.indexAddrA (m := 1) (hu 14 rfl) rfl UN37 TI3 (by decide) rfl ?_
  exact WL.nil ⟨rfl, _, rfl, rfl, hs.cutG 0 0⟩ }
  {
  intro ρ w Γx Λx hs hu hp
  have e478 : ρ 61 = .pointer (some ⟨g387, 1, none⟩) := (hp 3 rfl).1
  refine WL.loadF (z := x382.E1) F_Anon37_E1 hs (Λx.length + 0) (getApp rfl) (Γx.length + 0) (getApp rfl) rfl TI3 (.inr rfl) e478 rfl (fun v396 hs => ?_)
  obtain rfl := hs.int 0 rfl
  exact WL.nil ⟨rfl, _, rfl, rfl, hs.cutG 0 1⟩ }
  {
  intro ρ w Γx Λx hs hu hp
  have e479 : ρ 58 = .agg ([.slice a11 (x10.Operations).length c13] : List Value).toArray := (hp 0 rfl).1
  have e480 : ρ 60 = .int .i64 x382.E0 := (hp 2 rfl).1
  have e481 : ρ 62 = .int .i64 x382.E1 := (hp 4 rfl).1
  have hs := hs.add (it := vl t_history_History (⟨x10.Operations⟩ : history_History) (.agg [.slice a11 (x10.Operations).length c13].toArray)) fun ok hA => V_agg ((R_one (hA.get (Γx.length + 3) (getApp rfl)))) rfl
  refine WL.call (vs := [.agg ([.slice a11 (x10.Operations).length c13] : List Value).toArray, .int .i64 x382.E0, .int .i64 x382.E1]) hs FN15 ⟨e479, ⟨e480, ⟨e481, trivial⟩⟩⟩ (fun ok hA => history_Precedes.calls (x1 := (⟨x10.Operations⟩ : history_History)) (x5 := x382.E0) (x6 := x382.E1) hxx397 (hA.get 0 rfl)) ?_
  rintro _ w hs
  exact WL.nil ⟨rfl, _, rfl, rfl, hs.cutG 0 1⟩ }
  {
  intro ρ w Γx Λx hs hu hp
  refine WL.loadN (vs := [.slice a11 (x10.Operations).length c13]) hs (Λx.length + 1) (getApp rfl) TI24 ((hu 11 rfl).trans h374_11) rfl rfl ?_
  exact WL.nil ⟨rfl, _, rfl, rfl, hs.cutG 0 0⟩ }
  {
  intro ρ w Γx Λx hs hu hp
  refine WL.indexAddrA (m := 0) (hu 14 rfl) rfl UN37 TI3 (by decide) rfl ?_
  exact WL.nil ⟨rfl, _, rfl, rfl, hs.cutG 0 0⟩ }
  {
  intro ρ w Γx Λx hs hu hp
  have e482 : ρ 65 = .pointer (some ⟨g387, 0, none⟩) := (hp 7 rfl).1
  refine WL.loadF (z := x382.E0) F_Anon37_E0 hs (Λx.length + 0) (getApp rfl) (Γx.length + 0) (getApp rfl) rfl TI3 (.inr rfl) e482 rfl (fun v398 hs => ?_)
  obtain rfl := hs.int 0 rfl
  exact WL.nil ⟨rfl, _, rfl, rfl, hs.cutG 0 1⟩ }
  {
  intro ρ w Γx Λx hs hu hp
  refine WL.indexAddrA (m := 1) (hu 14 rfl) rfl UN37 TI3 (by decide) rfl ?_
  exact WL.nil ⟨rfl, _, rfl, rfl, hs.cutG 0 0⟩ }
  {
  intro ρ w Γx Λx hs hu hp
  have e483 : ρ 67 = .pointer (some ⟨g387, 1, none⟩) := (hp 9 rfl).1
  refine WL.loadF (z := x382.E1) F_Anon37_E1 hs (Λx.length + 0) (getApp rfl) (Γx.length + 0) (getApp rfl) rfl TI3 (.inr rfl) e483 rfl (fun v399 hs => ?_)
  obtain rfl := hs.int 0 rfl
  exact WL.nil ⟨rfl, _, rfl, rfl, hs.cutG 0 1⟩ }
  {
  intro ρ w Γx Λx hs hu hp
  have e484 : ρ 64 = .agg ([.slice a11 (x10.Operations).length c13] : List Value).toArray := (hp 6 rfl).1
  have e485 : ρ 66 = .int .i64 x382.E0 := (hp 8 rfl).1
  have e486 : ρ 68 = .int .i64 x382.E1 := (hp 10 rfl).1
  have hs := hs.add (it := vl t_history_History (⟨x10.Operations⟩ : history_History) (.agg [.slice a11 (x10.Operations).length c13].toArray)) fun ok hA => V_agg ((R_one (hA.get (Γx.length + 3) (getApp rfl)))) rfl
  refine WL.call (vs := [.agg ([.slice a11 (x10.Operations).length c13] : List Value).toArray, .int .i64 x382.E0, .int .i64 x382.E1]) hs FN16 ⟨e484, ⟨e485, ⟨e486, trivial⟩⟩⟩ (fun ok hA => esref39_Precedes.calls (x1 := (⟨x10.Operations⟩ : history_History)) (x5 := x382.E0) (x6 := x382.E1) hxx400 (hA.get 0 rfl)) ?_
  rintro _ w hs
  exact WL.nil ⟨rfl, _, rfl, rfl, hs.cutG 0 1⟩ }
  {
  intro ρ w Γx Λx hs hu hp
  have e487 : ρ 63 = .bool x397 := (hp 5 rfl).1
  have e488 : ρ 69 = .bool x400 := (hp 11 rfl).1
  refine WL.neB UN4 e487 e488 ?_
  exact WL.nil ⟨rfl, _, rfl, rfl, hs.cutG 0 0⟩ }
  {
  intro ρ w Γx Λx hs hu hp
  have e489 : ρ 70 = .bool (x397 != x400) := (hp 12 rfl).1
  refine WL.move (v := .bool (x397 != x400)) e489 ?_
  exact WL.nil ⟨rfl, _, rfl, rfl, hs.cutG 0 0⟩ }
  {
  intro ρ w Γx Λx hs hu hp
  have e490 : ρ 71 = .bool (x397 != x400) := (hp 13 rfl).1
  refine WL.loadN (vs := [.slice a11 (x10.Operations).length c13]) hs (Λx.length + 1) (getApp rfl) TI24 ((hu 11 rfl).trans h374_11) rfl rfl ?_ (hg := (wanted_of rfl rfl (bool_tr e490 hc401)).trans rfl)
  exact WL.nil ⟨rfl, _, rfl, rfl, hs.cutG 0 0⟩ }
  {
  intro ρ w Γx Λx hs hu hp
  have e491 : ρ 71 = .bool (x397 != x400) := (hp 13 rfl).1
  refine WL.indexAddrA (m := 0) (hu 14 rfl) rfl UN37 TI3 (by decide) rfl ?_ (hg := (wanted_of rfl rfl (bool_tr e491 hc401)).trans rfl)
  exact WL.nil ⟨rfl, _, rfl, rfl, hs.cutG 0 0⟩ }
  {
  intro ρ w Γx Λx hs hu hp
  have e492 : ρ 73 = .pointer (some ⟨g387, 0, none⟩) := (hp 15 rfl).1
  have e493 : ρ 71 = .bool (x397 != x400) := (hp 13 rfl).1
  refine WL.loadF (z := x382.E0) F_Anon37_E0 hs (Λx.length + 0) (getApp rfl) (Γx.length + 0) (getApp rfl) rfl TI3 (.inr rfl) e492 rfl (fun v471 hs => ?_) (hg := (wanted_of rfl rfl (bool_tr e493 hc401)).trans rfl)
  obtain rfl := hs.int 0 rfl
  exact WL.nil ⟨rfl, _, rfl, rfl, hs.cutG 0 1⟩ }
  {
  intro ρ w Γx Λx hs hu hp
  have e494 : ρ 71 = .bool (x397 != x400) := (hp 13 rfl).1
  refine WL.indexAddrA (m := 1) (hu 14 rfl) rfl UN37 TI3 (by decide) rfl ?_ (hg := (wanted_of rfl rfl (bool_tr e494 hc401)).trans rfl)
  exact WL.nil ⟨rfl, _, rfl, rfl, hs.cutG 0 0⟩ }
  {
  intro ρ w Γx Λx hs hu hp
  have e495 : ρ 75 = .pointer (some ⟨g387, 1, none⟩) := (hp 17 rfl).1
  have e496 : ρ 71 = .bool (x397 != x400) := (hp 13 rfl).1
  refine WL.loadF (z := x382.E1) F_Anon37_E1 hs (Λx.length + 0) (getApp rfl) (Γx.length + 0) (getApp rfl) rfl TI3 (.inr rfl) e495 rfl (fun v472 hs => ?_) (hg := (wanted_of rfl rfl (bool_tr e496 hc401)).trans rfl)
  obtain rfl := hs.int 0 rfl
  exact WL.nil ⟨rfl, _, rfl, rfl, hs.cutG 0 1⟩ }
  {
  intro ρ w Γx Λx hs hu hp
  have e497 : ρ 72 = .agg ([.slice a11 (x10.Operations).length c13] : List Value).toArray := (hp 14 rfl).1
  have e498 : ρ 74 = .int .i64 x382.E0 := (hp 16 rfl).1
  have e499 : ρ 76 = .int .i64 x382.E1 := (hp 18 rfl).1
  have e500 : ρ 71 = .bool (x397 != x400) := (hp 13 rfl).1
  have hs := hs.add (it := vl t_history_History (⟨x10.Operations⟩ : history_History) (.agg [.slice a11 (x10.Operations).length c13].toArray)) fun ok hA => V_agg ((R_one (hA.get (Γx.length + 3) (getApp rfl)))) rfl
  refine WL.call (vs := [.agg ([.slice a11 (x10.Operations).length c13] : List Value).toArray, .int .i64 x382.E0, .int .i64 x382.E1]) hs FN17 ⟨e497, ⟨e498, ⟨e499, trivial⟩⟩⟩ (fun ok hA => history_Concurrent.calls (x1 := (⟨x10.Operations⟩ : history_History)) (x5 := x382.E0) (x6 := x382.E1) hxx473 (hA.get 0 rfl)) ?_ (hg := (wanted_of rfl rfl (bool_tr e500 hc401)).trans rfl)
  rintro _ w hs
  exact WL.nil ⟨rfl, _, rfl, rfl, hs.cutG 0 1⟩ }
  {
  intro ρ w Γx Λx hs hu hp
  have e501 : ρ 71 = .bool (x397 != x400) := (hp 13 rfl).1
  refine WL.loadN (vs := [.slice a11 (x10.Operations).length c13]) hs (Λx.length + 1) (getApp rfl) TI24 ((hu 11 rfl).trans h374_11) rfl rfl ?_ (hg := (wanted_of rfl rfl (bool_tr e501 hc401)).trans rfl)
  exact WL.nil ⟨rfl, _, rfl, rfl, hs.cutG 0 0⟩ }
  {
  intro ρ w Γx Λx hs hu hp
  have e502 : ρ 71 = .bool (x397 != x400) := (hp 13 rfl).1
  refine WL.indexAddrA (m := 0) (hu 14 rfl) rfl UN37 TI3 (by decide) rfl ?_ (hg := (wanted_of rfl rfl (bool_tr e502 hc401)).trans rfl)
  exact WL.nil ⟨rfl, _, rfl, rfl, hs.cutG 0 0⟩ }
  {
  intro ρ w Γx Λx hs hu hp
  have e503 : ρ 79 = .pointer (some ⟨g387, 0, none⟩) := (hp 21 rfl).1
  have e504 : ρ 71 = .bool (x397 != x400) := (hp 13 rfl).1
  refine WL.loadF (z := x382.E0) F_Anon37_E0 hs (Λx.length + 0) (getApp rfl) (Γx.length + 0) (getApp rfl) rfl TI3 (.inr rfl) e503 rfl (fun v474 hs => ?_) (hg := (wanted_of rfl rfl (bool_tr e504 hc401)).trans rfl)
  obtain rfl := hs.int 0 rfl
  exact WL.nil ⟨rfl, _, rfl, rfl, hs.cutG 0 1⟩ }
  {
  intro ρ w Γx Λx hs hu hp
  have e505 : ρ 71 = .bool (x397 != x400) := (hp 13 rfl).1
  refine WL.indexAddrA (m := 1) (hu 14 rfl) rfl UN37 TI3 (by decide) rfl ?_ (hg := (wanted_of rfl rfl (bool_tr e505 hc401)).trans rfl)
  exact WL.nil ⟨rfl, _, rfl, rfl, hs.cutG 0 0⟩ }
  {
  intro ρ w Γx Λx hs hu hp
  have e506 : ρ 81 = .pointer (some ⟨g387, 1, none⟩) := (hp 23 rfl).1
  have e507 : ρ 71 = .bool (x397 != x400) := (hp 13 rfl).1
  refine WL.loadF (z := x382.E1) F_Anon37_E1 hs (Λx.length + 0) (getApp rfl) (Γx.length + 0) (getApp rfl) rfl TI3 (.inr rfl) e506 rfl (fun v475 hs => ?_) (hg := (wanted_of rfl rfl (bool_tr e507 hc401)).trans rfl)
  obtain rfl := hs.int 0 rfl
  exact WL.nil ⟨rfl, _, rfl, rfl, hs.cutG 0 1⟩ }
  {
  intro ρ w Γx Λx hs hu hp
  have e508 : ρ 78 = .agg ([.slice a11 (x10.Operations).length c13] : List Value).toArray := (hp 20 rfl).1
  have e509 : ρ 80 = .int .i64 x382.E0 := (hp 22 rfl).1
  have e510 : ρ 82 = .int .i64 x382.E1 := (hp 24 rfl).1
  have e511 : ρ 71 = .bool (x397 != x400) := (hp 13 rfl).1
  have hs := hs.add (it := vl t_history_History (⟨x10.Operations⟩ : history_History) (.agg [.slice a11 (x10.Operations).length c13].toArray)) fun ok hA => V_agg ((R_one (hA.get (Γx.length + 3) (getApp rfl)))) rfl
  refine WL.call (vs := [.agg ([.slice a11 (x10.Operations).length c13] : List Value).toArray, .int .i64 x382.E0, .int .i64 x382.E1]) hs FN18 ⟨e508, ⟨e509, ⟨e510, trivial⟩⟩⟩ (fun ok hA => esref39_Concurrent.calls (x1 := (⟨x10.Operations⟩ : history_History)) (x5 := x382.E0) (x6 := x382.E1) hxx476 (hA.get 0 rfl)) ?_ (hg := (wanted_of rfl rfl (bool_tr e511 hc401)).trans rfl)
  rintro _ w hs
  exact WL.nil ⟨rfl, _, rfl, rfl, hs.cutG 0 1⟩ }
  {
  intro ρ w Γx Λx hs hu hp
  have e512 : ρ 77 = .bool x473 := (hp 19 rfl).1
  have e513 : ρ 83 = .bool x476 := (hp 25 rfl).1
  have e514 : ρ 71 = .bool (x397 != x400) := (hp 13 rfl).1
  refine WL.neB UN4 e512 e513 ?_ (hg := (wanted_of rfl rfl (bool_tr e514 hc401)).trans rfl)
  exact WL.nil ⟨rfl, _, rfl, rfl, hs.cutG 0 0⟩ }
  {
  intro ρ w Γx Λx hs hu hp
  have e515 : ρ 71 = .bool (x397 != x400) := (hp 13 rfl).1
  have e516 : ρ 84 = .bool (x473 != x476) := (hp 26 rfl).1
  refine WL.pickF (v := .bool (x473 != x476)) (bool_tr e515 hc401) e516 ?_
  exact WL.nil ⟨rfl, _, rfl, rfl, hs.cutG 0 0⟩ }
  {
  intro ρ w hs hu517 hp
  obtain ⟨⟨⟨⟨⟨⟨⟨⟨⟨⟨⟨⟨⟨⟨⟨⟨⟨⟨⟨⟨⟨⟨⟨⟨⟨⟨⟨⟨_, hp0_⟩, hp1_⟩, hp2_⟩, hp3_⟩, hp4_⟩, hp5_⟩, hp6_⟩, hp7_⟩, hp8_⟩, hp9_⟩, hp10_⟩, hp11_⟩, hp12_⟩, hp13_⟩, hp14_⟩, hp15_⟩, hp16_⟩, hp17_⟩, hp18_⟩, hp19_⟩, hp20_⟩, hp21_⟩, hp22_⟩, hp23_⟩, hp24_⟩, hp25_⟩, hp26_⟩, hp27_⟩ := hp
  have hs : St ok (bz w0) w [vl t_Anon37 x382 (.agg cs385.toArray), pl t_Anon37 x382 ad383, vl (tSlice t_Anon37) [(⟨x19, x21⟩ : Anon37), (⟨x21, x19⟩ : Anon37), (⟨x19, x19⟩ : Anon37), (⟨x23, x25⟩ : Anon37), (⟨x21, x23⟩ : Anon37)] (.slice (some ⟨g373, 0, none⟩) ([(⟨x19, x21⟩ : Anon37), (⟨x21, x19⟩ : Anon37), (⟨x19, x19⟩ : Anon37), (⟨x23, x25⟩ : Anon37), (⟨x21, x23⟩ : Anon37)]).length 5), vl (tSlice t_history_Operation) x10.Operations (.slice a11 (x10.Operations).length c13)] [blk g387 37 cs385, blk g14 24 [.slice a11 (x10.Operations).length c13]] := hs
  have e518 : ρ 85 = .bool (x473 != x476) := hp27_
  have e519 : ρ 84 = .bool (x473 != x476) := hp26_
  have e520 : ρ 83 = .bool x476 := hp25_
  have e521 : ρ 82 = .int .i64 x382.E1 := hp24_
  have e522 : ρ 81 = .pointer (some ⟨g387, 1, none⟩) := hp23_
  have e523 : ρ 80 = .int .i64 x382.E0 := hp22_
  have e524 : ρ 79 = .pointer (some ⟨g387, 0, none⟩) := hp21_
  have e525 : ρ 78 = .agg ([.slice a11 (x10.Operations).length c13] : List Value).toArray := hp20_
  have e526 : ρ 77 = .bool x473 := hp19_
  have e527 : ρ 76 = .int .i64 x382.E1 := hp18_
  have e528 : ρ 75 = .pointer (some ⟨g387, 1, none⟩) := hp17_
  have e529 : ρ 74 = .int .i64 x382.E0 := hp16_
  have e530 : ρ 73 = .pointer (some ⟨g387, 0, none⟩) := hp15_
  have e531 : ρ 72 = .agg ([.slice a11 (x10.Operations).length c13] : List Value).toArray := hp14_
  have e532 : ρ 71 = .bool (x397 != x400) := hp13_
  have e533 : ρ 70 = .bool (x397 != x400) := hp12_
  have e534 : ρ 69 = .bool x400 := hp11_
  have e535 : ρ 68 = .int .i64 x382.E1 := hp10_
  have e536 : ρ 67 = .pointer (some ⟨g387, 1, none⟩) := hp9_
  have e537 : ρ 66 = .int .i64 x382.E0 := hp8_
  have e538 : ρ 65 = .pointer (some ⟨g387, 0, none⟩) := hp7_
  have e539 : ρ 64 = .agg ([.slice a11 (x10.Operations).length c13] : List Value).toArray := hp6_
  have e540 : ρ 63 = .bool x397 := hp5_
  have e541 : ρ 62 = .int .i64 x382.E1 := hp4_
  have e542 : ρ 61 = .pointer (some ⟨g387, 1, none⟩) := hp3_
  have e543 : ρ 60 = .int .i64 x382.E0 := hp2_
  have e544 : ρ 59 = .pointer (some ⟨g387, 0, none⟩) := hp1_
  have e545 : ρ 58 = .agg ([.slice a11 (x10.Operations).length c13] : List Value).toArray := hp0_
  refine WA.done (by kernel_rfl) ?_
  exact Jk391 (x473 != x476) _ _ ((hu517 1 rfl).trans h374_1) ((hu517 2 rfl).trans h374_2) ((hu517 3 rfl).trans h374_3) ((hu517 4 rfl).trans h374_4) ((hu517 11 rfl).trans h374_11) ((hu517 52 rfl).trans h374_52) ((hu517 53 rfl).trans h374_53) ((hu517 54 rfl).trans h374_54) e518 ((hs.mask [false, true]).pick [2, 3]) hf } } }
  {
  refine W.cond_false (bool_tr rfl hc379) ?_
  refine W.exit ?_
  have hr := Option.some.inj hf; subst hr
  have hr := hbbs376 _ rfl; subst hr
  have hf := hfs376
  exact Jk341  _ _ h374_1 h374_2 h374_3 h374_4 h374_11 ((hs.mask [true]).pick [1]) hf }
end Go.Proofs.Ytbbeobiampbddaa
