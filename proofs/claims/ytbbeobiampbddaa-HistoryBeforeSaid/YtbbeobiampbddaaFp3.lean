import Derived.Test.YtbbeobiampbddaaFh
import Derived.Test.YtbbeobiampbddaaLt
import Derived.Test.YtbbeobiampbddaaLz
import Derived.Test.YtbbeobiampbddaaFp1
import Derived.Test.YtbbeobiampbddaaFp2
set_option linter.unusedVariables false
set_option linter.unusedSimpArgs false
namespace Go.Proofs.Ytbbeobiampbddaa
open Go Go.RowKit Go.Proofs.YtbbeobiampbddaaL
set_option maxRecDepth 100000
set_option maxHeartbeats 4000000
/-! elasticstore/elasticstorelaw38.awake: function 10 -/
theorem eslaw38_awake.calls {ok : Nat → Prop} {w0 : World}   {r : Bool} (hf : eslaw38_awake = some r)  :
    Calls Try.prog 10 #[] w0 fun e w' => ∃ v, e = .returned v ∧ ∃ y : Unit, v = .bool r ∧ St ok (bz w0) w' [] [] := by
  unfold eslaw38_awake at hf
  refine calls_of_W (fn := Try.f10) (N := 78) Try.func10 rfl Try.ntmps10 rfl ?_
  have hs : St ok (bz w0) w0 [] [] := St.init All.nil
  refine W.seqK fun K1 hK1 => ?_
  refine W.region ?_
  refine WL.assign (v := .bool false) rfl ?_
  refine WL.nil ?_
  refine hK1 _ _ ?_
  refine W.seqK fun K2 hK2 => ?_
  refine W.region ?_
  refine WL.build (vs := [(0, .int .i64 5), (1, bstr ([97] : List UInt8)), (2, bstr ([98] : List UInt8))]) (cs := [.int .i64 5, bstr ([97] : List UInt8), bstr ([98] : List UInt8), .int .i64 0, bstr []]) ⟨⟨rfl, rfl⟩, ⟨⟨rfl, rfl⟩, ⟨⟨rfl, rfl⟩, trivial⟩⟩⟩ (bld PL72 rfl) ?_
  refine WL.buildSlice (n := 1) (vs := [(0, .agg ([.int .i64 5, bstr ([97] : List UInt8), bstr ([98] : List UInt8), .int .i64 0, bstr []] : List Value).toArray)]) (cs := [.int .i64 5, bstr ([97] : List UInt8), bstr ([98] : List UInt8), .int .i64 0, bstr []]) hs ⟨⟨rfl, rfl⟩, trivial⟩ (bls PS30 (by decide) rfl) (fun g3 w hs => ?_)
  refine WL.build (vs := [(0, .int .i64 101), (1, .int .i64 1), (2, .slice (some ⟨g3, 0, none⟩) ([(⟨5, ([97] : List UInt8), ([98] : List UInt8), 0, []⟩ : api_Effect)]).length 1), (4, .int .i64 1), (5, .int .i64 4)]) (cs := [.int .i64 101, .int .i64 1, .slice (some ⟨g3, 0, none⟩) ([(⟨5, ([97] : List UInt8), ([98] : List UInt8), 0, []⟩ : api_Effect)]).length 1, .slice none 0 0, .int .i64 1, .int .i64 4]) ⟨⟨rfl, rfl⟩, ⟨⟨rfl, rfl⟩, ⟨⟨rfl, rfl⟩, ⟨⟨rfl, rfl⟩, ⟨⟨rfl, rfl⟩, trivial⟩⟩⟩⟩⟩ (bld PL35 rfl) ?_
  refine WL.build (vs := [(0, .int .i64 102), (1, .int .i64 3), (4, .int .i64 3)]) (cs := [.int .i64 102, .int .i64 3, .slice none 0 0, .slice none 0 0, .int .i64 3, .int .i64 0]) ⟨⟨rfl, rfl⟩, ⟨⟨rfl, rfl⟩, ⟨⟨rfl, rfl⟩, trivial⟩⟩⟩ (bld PL35 rfl) ?_
  refine WL.build (vs := [(0, .int .i64 101), (1, .int .i64 2), (4, .int .i64 5), (5, .int .i64 6)]) (cs := [.int .i64 101, .int .i64 2, .slice none 0 0, .slice none 0 0, .int .i64 5, .int .i64 6]) ⟨⟨rfl, rfl⟩, ⟨⟨rfl, rfl⟩, ⟨⟨rfl, rfl⟩, ⟨⟨rfl, rfl⟩, trivial⟩⟩⟩⟩ (bld PL35 rfl) ?_
  refine WL.buildSlice (n := 3) (vs := [(0, .agg ([.int .i64 101, .int .i64 1, .slice (some ⟨g3, 0, none⟩) ([(⟨5, ([97] : List UInt8), ([98] : List UInt8), 0, []⟩ : api_Effect)]).length 1, .slice none 0 0, .int .i64 1, .int .i64 4] : List Value).toArray), (1, .agg ([.int .i64 102, .int .i64 3, .slice none 0 0, .slice none 0 0, .int .i64 3, .int .i64 0] : List Value).toArray), (2, .agg ([.int .i64 101, .int .i64 2, .slice none 0 0, .slice none 0 0, .int .i64 5, .int .i64 6] : List Value).toArray)]) (cs := [.int .i64 101, .int .i64 1, .slice (some ⟨g3, 0, none⟩) ([(⟨5, ([97] : List UInt8), ([98] : List UInt8), 0, []⟩ : api_Effect)]).length 1, .slice none 0 0, .int .i64 1, .int .i64 4, .int .i64 102, .int .i64 3, .slice none 0 0, .slice none 0 0, .int .i64 3, .int .i64 0, .int .i64 101, .int .i64 2, .slice none 0 0, .slice none 0 0, .int .i64 5, .int .i64 6]) hs ⟨⟨rfl, rfl⟩, ⟨⟨rfl, rfl⟩, ⟨⟨rfl, rfl⟩, trivial⟩⟩⟩ (bls PS22 (by decide) rfl) (fun g4 w hs => ?_)
  refine WL.build (vs := [(0, .slice (some ⟨g4, 0, none⟩) ([(⟨101, 1, [(⟨5, ([97] : List UInt8), ([98] : List UInt8), 0, []⟩ : api_Effect)], [], 1, 4⟩ : history_Operation), (⟨102, 3, [], [], 3, 0⟩ : history_Operation), (⟨101, 2, [], [], 5, 6⟩ : history_Operation)]).length 3)]) (cs := [.slice (some ⟨g4, 0, none⟩) ([(⟨101, 1, [(⟨5, ([97] : List UInt8), ([98] : List UInt8), 0, []⟩ : api_Effect)], [], 1, 4⟩ : history_Operation), (⟨102, 3, [], [], 3, 0⟩ : history_Operation), (⟨101, 2, [], [], 5, 6⟩ : history_Operation)]).length 3]) ⟨⟨rfl, rfl⟩, trivial⟩ (bld PL24 rfl) ?_
  refine WL.alloc hs ZV24 (fun g5 w hs => ?_)
  refine WL.storeAll (vs := [.slice (some ⟨g4, 0, none⟩) ([(⟨101, 1, [(⟨5, ([97] : List UInt8), ([98] : List UInt8), 0, []⟩ : api_Effect)], [], 1, 4⟩ : history_Operation), (⟨102, 3, [], [], 3, 0⟩ : history_Operation), (⟨101, 2, [], [], 5, 6⟩ : history_Operation)]).length 3]) hs 0 rfl TI24 rfl rfl rfl rfl (ones_of rfl) rfl (fun w hs => ?_)
  refine WL.nil ?_
  refine hK2 _ _ ?_
  refine W.seqK fun K6 hK6 => ?_
  refine W.region ?_
  refine WL.build (vs := []) (cs := [.slice none 0 0]) trivial (bld PL50 rfl) ?_
  refine WL.fieldAddr (m := 0) rfl FA24_0 rfl ?_
  refine WL.load1 (v := .slice (some ⟨g4, 0, none⟩) ([(⟨101, 1, [(⟨5, ([97] : List UInt8), ([98] : List UInt8), 0, []⟩ : api_Effect)], [], 1, 4⟩ : history_Operation), (⟨102, 3, [], [], 3, 0⟩ : history_Operation), (⟨101, 2, [], [], 5, 6⟩ : history_Operation)]).length 3) hs 0 rfl TI22 rfl rfl ?_
  have hs := hs.ownLit (A := t_api_Effect) (xs := [(⟨5, ([97] : List UInt8), ([98] : List UInt8), 0, []⟩ : api_Effect)]) 2 rfl (fun ok hA => (Cells.one (T := t_api_Effect) (show t_api_Effect.R ok _ (⟨5, ([97] : List UInt8), ([98] : List UInt8), 0, []⟩ : api_Effect) _ from ⟨[.int .i64 5], ([bstr ([97] : List UInt8), bstr ([98] : List UInt8), .int .i64 0, bstr []]), rfl, rfl, ⟨([bstr ([97] : List UInt8)]), ([bstr ([98] : List UInt8), .int .i64 0, bstr []]), rfl, rfl, ⟨([bstr ([98] : List UInt8)]), ([.int .i64 0, bstr []]), rfl, rfl, ⟨[.int .i64 0], ([bstr []]), rfl, rfl, rfl⟩⟩⟩⟩))) (Nat.le_of_ble_eq_true rfl)
  have hs := hs.freezeOwn 2 rfl
  have hs := hs.ownLit (A := t_history_Operation) (xs := [(⟨101, 1, [(⟨5, ([97] : List UInt8), ([98] : List UInt8), 0, []⟩ : api_Effect)], [], 1, 4⟩ : history_Operation), (⟨102, 3, [], [], 3, 0⟩ : history_Operation), (⟨101, 2, [], [], 5, 6⟩ : history_Operation)]) 1 rfl (fun ok hA => (Cells.app (Cells.one (T := t_history_Operation) (show t_history_Operation.R ok _ (⟨101, 1, [(⟨5, ([97] : List UInt8), ([98] : List UInt8), 0, []⟩ : api_Effect)], [], 1, 4⟩ : history_Operation) _ from ⟨[.int .i64 101], ([.int .i64 1, .slice (some ⟨g3, 0, none⟩) ([(⟨5, ([97] : List UInt8), ([98] : List UInt8), 0, []⟩ : api_Effect)]).length 1, .slice none 0 0, .int .i64 1, .int .i64 4]), rfl, rfl, ⟨[.int .i64 1], ([.slice (some ⟨g3, 0, none⟩) ([(⟨5, ([97] : List UInt8), ([98] : List UInt8), 0, []⟩ : api_Effect)]).length 1, .slice none 0 0, .int .i64 1, .int .i64 4]), rfl, rfl, ⟨([.slice (some ⟨g3, 0, none⟩) ([(⟨5, ([97] : List UInt8), ([98] : List UInt8), 0, []⟩ : api_Effect)]).length 1]), [.slice none 0 0, .int .i64 1, .int .i64 4], rfl, (R_one (hA.get 0 rfl)), ⟨[.slice none 0 0], [.int .i64 1, .int .i64 4], rfl, R_nil, ⟨[.int .i64 1], [.int .i64 4], rfl, rfl, rfl⟩⟩⟩⟩⟩)) (Cells.app (Cells.one (T := t_history_Operation) (show t_history_Operation.R ok _ (⟨102, 3, [], [], 3, 0⟩ : history_Operation) _ from ⟨[.int .i64 102], [.int .i64 3, .slice none 0 0, .slice none 0 0, .int .i64 3, .int .i64 0], rfl, rfl, ⟨[.int .i64 3], [.slice none 0 0, .slice none 0 0, .int .i64 3, .int .i64 0], rfl, rfl, ⟨[.slice none 0 0], [.slice none 0 0, .int .i64 3, .int .i64 0], rfl, R_nil, ⟨[.slice none 0 0], [.int .i64 3, .int .i64 0], rfl, R_nil, ⟨[.int .i64 3], [.int .i64 0], rfl, rfl, rfl⟩⟩⟩⟩⟩)) (Cells.one (T := t_history_Operation) (show t_history_Operation.R ok _ (⟨101, 2, [], [], 5, 6⟩ : history_Operation) _ from ⟨[.int .i64 101], [.int .i64 2, .slice none 0 0, .slice none 0 0, .int .i64 5, .int .i64 6], rfl, rfl, ⟨[.int .i64 2], [.slice none 0 0, .slice none 0 0, .int .i64 5, .int .i64 6], rfl, rfl, ⟨[.slice none 0 0], [.slice none 0 0, .int .i64 5, .int .i64 6], rfl, R_nil, ⟨[.slice none 0 0], [.int .i64 5, .int .i64 6], rfl, R_nil, ⟨[.int .i64 5], [.int .i64 6], rfl, rfl, rfl⟩⟩⟩⟩⟩))))) (Nat.le_of_ble_eq_true rfl)
  have hs := hs.freezeOwn 1 rfl
  obtain ⟨x7, hxx7, hf⟩ := bindE hf
  refine WL.indexAddr hs 0 rfl UN22 TI35 rfl rfl hxx7 (fun ad8 hs => ?_)
  refine WL.fieldAddrP (z := x7.Effects) F_history_Operation_Effects hs 0 rfl rfl FA35_2 rfl (fun ad9 hs => ?_)
  refine WL.loadP hs 0 rfl TI30 (.inr rfl) rfl (fun v10 hs => ?_)
  obtain ⟨a11, c12, rfl⟩ := hs.slice 0 rfl
  refine WL.build (vs := [(0, .int .i64 101), (1, .int .i64 1), (3, .slice a11 (x7.Effects).length c12)]) (cs := [.int .i64 101, .int .i64 1, .int .i64 0, .slice a11 (x7.Effects).length c12]) ⟨⟨rfl, rfl⟩, ⟨⟨rfl, rfl⟩, ⟨⟨rfl, rfl⟩, trivial⟩⟩⟩ (bld PL75 rfl) ?_
  have hs := hs.add (it := vl t_fold_Store (⟨[]⟩ : fold_Store) (.agg [.slice none 0 0].toArray)) fun ok hA => V_agg (show t_fold_Store.R ok _ _ _ from (show (tSlice t_fold_Object).R ok _ [] _ from R_nil)) rfl
  have hs := hs.add (it := vl t_api_Update (⟨101, 1, 0, x7.Effects⟩ : api_Update) (.agg [.int .i64 101, .int .i64 1, .int .i64 0, .slice a11 (x7.Effects).length c12].toArray)) fun ok hA => V_agg (show t_api_Update.R ok _ _ _ from ⟨[.int .i64 101], [.int .i64 1, .int .i64 0, .slice a11 (x7.Effects).length c12], rfl, rfl, ⟨[.int .i64 1], [.int .i64 0, .slice a11 (x7.Effects).length c12], rfl, rfl, ⟨[.int .i64 0], [.slice a11 (x7.Effects).length c12], rfl, rfl, (R_one (hA.get 1 rfl))⟩⟩⟩) rfl
  obtain ⟨x13, hxx13, hf⟩ := bindE hf
  refine WL.call (vs := [.agg ([.slice none 0 0] : List Value).toArray, .agg ([.int .i64 101, .int .i64 1, .int .i64 0, .slice a11 (x7.Effects).length c12] : List Value).toArray]) hs FN35 ⟨rfl, ⟨rfl, trivial⟩⟩ (fun ok hA => fold_Apply.calls (x1 := (⟨[]⟩ : fold_Store)) (x2 := (⟨101, 1, 0, x7.Effects⟩ : api_Update)) hxx13 (hA.get 1 rfl) (hA.get 0 rfl)) ?_
  rintro cs14 w hs
  have hl15 := hs.agglen (n := 1) 0 rfl rfl rfl
  obtain ⟨x16, hxx16, hf⟩ := bindE hf
  refine WL.call (vs := [.agg cs14.toArray]) hs FN30 ⟨rfl, trivial⟩ (fun ok hA => history_Visible.calls (x1 := x13) hxx16 (hA.get 0 rfl)) ?_
  rintro ⟨a17, n18, c19⟩ w hs
  refine WL.assign (v := .slice a17 n18 c19) rfl ?_
  refine WL.nil ?_
  refine hK6 _ _ ?_
  refine W.seqK fun K20 hK20 => ?_
  have Jk23 : ∀ (x22 : Bool) (ρ : Env) (w : World), ρ 0 = .bool x22 → St ok (bz w0) w [] [] → eslaw38_awake.j1 x22 = some r → K20 ρ w := by
    intro x22 ρ w h21_0 hs hf
    refine hK20 _ _ ?_
    unfold eslaw38_awake.j1 at hf
    refine W.ret ?_
    have hr := Option.some.inj hf; subst hr
    exact ⟨_, resOk_one rfl h21_0, (), rfl, (hs.mask []).pick []⟩
  refine W.region ?_
  refine WL.loadN (vs := [.slice (some ⟨g4, 0, none⟩) ([(⟨101, 1, [(⟨5, ([97] : List UInt8), ([98] : List UInt8), 0, []⟩ : api_Effect)], [], 1, 4⟩ : history_Operation), (⟨102, 3, [], [], 3, 0⟩ : history_Operation), (⟨101, 2, [], [], 5, 6⟩ : history_Operation)]).length 3]) hs 1 rfl TI24 rfl rfl rfl ?_
  have hs := hs.add (it := vl t_history_History (⟨[(⟨101, 1, [(⟨5, ([97] : List UInt8), ([98] : List UInt8), 0, []⟩ : api_Effect)], [], 1, 4⟩ : history_Operation), (⟨102, 3, [], [], 3, 0⟩ : history_Operation), (⟨101, 2, [], [], 5, 6⟩ : history_Operation)]⟩ : history_History) (.agg ([.slice (some ⟨g4, 0, none⟩) ([(⟨101, 1, [(⟨5, ([97] : List UInt8), ([98] : List UInt8), 0, []⟩ : api_Effect)], [], 1, 4⟩ : history_Operation), (⟨102, 3, [], [], 3, 0⟩ : history_Operation), (⟨101, 2, [], [], 5, 6⟩ : history_Operation)]).length 3]).toArray)) fun ok hA => V_agg ((R_one (hA.get 6 rfl))) rfl
  obtain ⟨x24, hxx24, hf⟩ := bindE hf
  refine WL.call (vs := [.agg ([.slice (some ⟨g4, 0, none⟩) ([(⟨101, 1, [(⟨5, ([97] : List UInt8), ([98] : List UInt8), 0, []⟩ : api_Effect)], [], 1, 4⟩ : history_Operation), (⟨102, 3, [], [], 3, 0⟩ : history_Operation), (⟨101, 2, [], [], 5, 6⟩ : history_Operation)]).length 3] : List Value).toArray]) hs FN11 ⟨rfl, trivial⟩ (fun ok hA => history_Validate.calls (x1 := (⟨[(⟨101, 1, [(⟨5, ([97] : List UInt8), ([98] : List UInt8), 0, []⟩ : api_Effect)], [], 1, 4⟩ : history_Operation), (⟨102, 3, [], [], 3, 0⟩ : history_Operation), (⟨101, 2, [], [], 5, 6⟩ : history_Operation)]⟩ : history_History)) hxx24 (hA.get 0 rfl)) ?_
  rintro _ w hs
  refine WL.bin (v := .bool (x24 == 0)) rfl rfl (ib_eql _ _ _) ?_
  refine WL.move (v := .bool (x24 == 0)) rfl ?_
  rcases iteE hf with ⟨hc25, hf⟩ | ⟨hc25, hf⟩
  {
  refine WL.loadN (vs := [.slice (some ⟨g4, 0, none⟩) ([(⟨101, 1, [(⟨5, ([97] : List UInt8), ([98] : List UInt8), 0, []⟩ : api_Effect)], [], 1, 4⟩ : history_Operation), (⟨102, 3, [], [], 3, 0⟩ : history_Operation), (⟨101, 2, [], [], 5, 6⟩ : history_Operation)]).length 3]) hs 1 rfl TI24 rfl rfl rfl ?_ (hg := (wanted_of rfl rfl (bool_tr rfl hc25)).trans rfl)
  have hs := hs.add (it := vl t_history_History (⟨[(⟨101, 1, [(⟨5, ([97] : List UInt8), ([98] : List UInt8), 0, []⟩ : api_Effect)], [], 1, 4⟩ : history_Operation), (⟨102, 3, [], [], 3, 0⟩ : history_Operation), (⟨101, 2, [], [], 5, 6⟩ : history_Operation)]⟩ : history_History) (.agg ([.slice (some ⟨g4, 0, none⟩) ([(⟨101, 1, [(⟨5, ([97] : List UInt8), ([98] : List UInt8), 0, []⟩ : api_Effect)], [], 1, 4⟩ : history_Operation), (⟨102, 3, [], [], 3, 0⟩ : history_Operation), (⟨101, 2, [], [], 5, 6⟩ : history_Operation)]).length 3]).toArray)) fun ok hA => V_agg ((R_one (hA.get 7 rfl))) rfl
  obtain ⟨x26, hxx26, hf⟩ := bindE hf
  refine WL.call (vs := [.agg ([.slice (some ⟨g4, 0, none⟩) ([(⟨101, 1, [(⟨5, ([97] : List UInt8), ([98] : List UInt8), 0, []⟩ : api_Effect)], [], 1, 4⟩ : history_Operation), (⟨102, 3, [], [], 3, 0⟩ : history_Operation), (⟨101, 2, [], [], 5, 6⟩ : history_Operation)]).length 3] : List Value).toArray, .int .i64 0, .int .i64 2]) hs FN15 ⟨rfl, ⟨rfl, ⟨rfl, trivial⟩⟩⟩ (fun ok hA => history_Precedes.calls (x1 := (⟨[(⟨101, 1, [(⟨5, ([97] : List UInt8), ([98] : List UInt8), 0, []⟩ : api_Effect)], [], 1, 4⟩ : history_Operation), (⟨102, 3, [], [], 3, 0⟩ : history_Operation), (⟨101, 2, [], [], 5, 6⟩ : history_Operation)]⟩ : history_History)) (x5 := 0) (x6 := 2) hxx26 (hA.get 0 rfl)) ?_ (hg := (wanted_of rfl rfl (bool_tr rfl hc25)).trans rfl)
  rintro _ w hs
  refine WL.pickT (v := .bool x26) (bool_tr rfl hc25) rfl ?_
  refine WL.move (v := .bool x26) rfl ?_
  rcases iteE hf with ⟨hc27, hf⟩ | ⟨hc27, hf⟩
  {
  refine WL.loadN (vs := [.slice (some ⟨g4, 0, none⟩) ([(⟨101, 1, [(⟨5, ([97] : List UInt8), ([98] : List UInt8), 0, []⟩ : api_Effect)], [], 1, 4⟩ : history_Operation), (⟨102, 3, [], [], 3, 0⟩ : history_Operation), (⟨101, 2, [], [], 5, 6⟩ : history_Operation)]).length 3]) hs 1 rfl TI24 rfl rfl rfl ?_ (hg := (wanted_of rfl rfl (bool_tr rfl hc27)).trans rfl)
  have hs := hs.add (it := vl t_history_History (⟨[(⟨101, 1, [(⟨5, ([97] : List UInt8), ([98] : List UInt8), 0, []⟩ : api_Effect)], [], 1, 4⟩ : history_Operation), (⟨102, 3, [], [], 3, 0⟩ : history_Operation), (⟨101, 2, [], [], 5, 6⟩ : history_Operation)]⟩ : history_History) (.agg ([.slice (some ⟨g4, 0, none⟩) ([(⟨101, 1, [(⟨5, ([97] : List UInt8), ([98] : List UInt8), 0, []⟩ : api_Effect)], [], 1, 4⟩ : history_Operation), (⟨102, 3, [], [], 3, 0⟩ : history_Operation), (⟨101, 2, [], [], 5, 6⟩ : history_Operation)]).length 3]).toArray)) fun ok hA => V_agg ((R_one (hA.get 8 rfl))) rfl
  obtain ⟨x28, hxx28, hf⟩ := bindE hf
  refine WL.call (vs := [.agg ([.slice (some ⟨g4, 0, none⟩) ([(⟨101, 1, [(⟨5, ([97] : List UInt8), ([98] : List UInt8), 0, []⟩ : api_Effect)], [], 1, 4⟩ : history_Operation), (⟨102, 3, [], [], 3, 0⟩ : history_Operation), (⟨101, 2, [], [], 5, 6⟩ : history_Operation)]).length 3] : List Value).toArray, .int .i64 0, .int .i64 1]) hs FN15 ⟨rfl, ⟨rfl, ⟨rfl, trivial⟩⟩⟩ (fun ok hA => history_Precedes.calls (x1 := (⟨[(⟨101, 1, [(⟨5, ([97] : List UInt8), ([98] : List UInt8), 0, []⟩ : api_Effect)], [], 1, 4⟩ : history_Operation), (⟨102, 3, [], [], 3, 0⟩ : history_Operation), (⟨101, 2, [], [], 5, 6⟩ : history_Operation)]⟩ : history_History)) (x5 := 0) (x6 := 1) hxx28 (hA.get 0 rfl)) ?_ (hg := (wanted_of rfl rfl (bool_tr rfl hc27)).trans rfl)
  rintro _ w hs
  refine WL.not rfl ?_ (hg := (wanted_of rfl rfl (bool_tr rfl hc27)).trans rfl)
  refine WL.pickT (v := .bool (!x28)) (bool_tr rfl hc27) rfl ?_
  refine WL.move (v := .bool (!x28)) rfl ?_
  rcases iteE hf with ⟨hc29, hf⟩ | ⟨hc29, hf⟩
  {
  refine WL.loadN (vs := [.slice (some ⟨g4, 0, none⟩) ([(⟨101, 1, [(⟨5, ([97] : List UInt8), ([98] : List UInt8), 0, []⟩ : api_Effect)], [], 1, 4⟩ : history_Operation), (⟨102, 3, [], [], 3, 0⟩ : history_Operation), (⟨101, 2, [], [], 5, 6⟩ : history_Operation)]).length 3]) hs 1 rfl TI24 rfl rfl rfl ?_ (hg := (wanted_of rfl rfl (bool_tr rfl hc29)).trans rfl)
  have hs := hs.add (it := vl t_history_History (⟨[(⟨101, 1, [(⟨5, ([97] : List UInt8), ([98] : List UInt8), 0, []⟩ : api_Effect)], [], 1, 4⟩ : history_Operation), (⟨102, 3, [], [], 3, 0⟩ : history_Operation), (⟨101, 2, [], [], 5, 6⟩ : history_Operation)]⟩ : history_History) (.agg ([.slice (some ⟨g4, 0, none⟩) ([(⟨101, 1, [(⟨5, ([97] : List UInt8), ([98] : List UInt8), 0, []⟩ : api_Effect)], [], 1, 4⟩ : history_Operation), (⟨102, 3, [], [], 3, 0⟩ : history_Operation), (⟨101, 2, [], [], 5, 6⟩ : history_Operation)]).length 3]).toArray)) fun ok hA => V_agg ((R_one (hA.get 9 rfl))) rfl
  obtain ⟨x30, hxx30, hf⟩ := bindE hf
  refine WL.call (vs := [.agg ([.slice (some ⟨g4, 0, none⟩) ([(⟨101, 1, [(⟨5, ([97] : List UInt8), ([98] : List UInt8), 0, []⟩ : api_Effect)], [], 1, 4⟩ : history_Operation), (⟨102, 3, [], [], 3, 0⟩ : history_Operation), (⟨101, 2, [], [], 5, 6⟩ : history_Operation)]).length 3] : List Value).toArray, .int .i64 1, .int .i64 2]) hs FN17 ⟨rfl, ⟨rfl, ⟨rfl, trivial⟩⟩⟩ (fun ok hA => history_Concurrent.calls (x1 := (⟨[(⟨101, 1, [(⟨5, ([97] : List UInt8), ([98] : List UInt8), 0, []⟩ : api_Effect)], [], 1, 4⟩ : history_Operation), (⟨102, 3, [], [], 3, 0⟩ : history_Operation), (⟨101, 2, [], [], 5, 6⟩ : history_Operation)]⟩ : history_History)) (x5 := 1) (x6 := 2) hxx30 (hA.get 0 rfl)) ?_ (hg := (wanted_of rfl rfl (bool_tr rfl hc29)).trans rfl)
  rintro _ w hs
  refine WL.pickT (v := .bool x30) (bool_tr rfl hc29) rfl ?_
  refine WL.move (v := .bool x30) rfl ?_
  rcases iteE hf with ⟨hc31, hf⟩ | ⟨hc31, hf⟩
  {
  refine WL.loadN (vs := [.slice (some ⟨g4, 0, none⟩) ([(⟨101, 1, [(⟨5, ([97] : List UInt8), ([98] : List UInt8), 0, []⟩ : api_Effect)], [], 1, 4⟩ : history_Operation), (⟨102, 3, [], [], 3, 0⟩ : history_Operation), (⟨101, 2, [], [], 5, 6⟩ : history_Operation)]).length 3]) hs 1 rfl TI24 rfl rfl rfl ?_ (hg := (wanted_of rfl rfl (bool_tr rfl hc31)).trans rfl)
  have hs := hs.add (it := vl t_history_History (⟨[(⟨101, 1, [(⟨5, ([97] : List UInt8), ([98] : List UInt8), 0, []⟩ : api_Effect)], [], 1, 4⟩ : history_Operation), (⟨102, 3, [], [], 3, 0⟩ : history_Operation), (⟨101, 2, [], [], 5, 6⟩ : history_Operation)]⟩ : history_History) (.agg ([.slice (some ⟨g4, 0, none⟩) ([(⟨101, 1, [(⟨5, ([97] : List UInt8), ([98] : List UInt8), 0, []⟩ : api_Effect)], [], 1, 4⟩ : history_Operation), (⟨102, 3, [], [], 3, 0⟩ : history_Operation), (⟨101, 2, [], [], 5, 6⟩ : history_Operation)]).length 3]).toArray)) fun ok hA => V_agg ((R_one (hA.get 10 rfl))) rfl
  obtain ⟨x32, hxx32, hf⟩ := bindE hf
  refine WL.call (vs := [.agg ([.slice (some ⟨g4, 0, none⟩) ([(⟨101, 1, [(⟨5, ([97] : List UInt8), ([98] : List UInt8), 0, []⟩ : api_Effect)], [], 1, 4⟩ : history_Operation), (⟨102, 3, [], [], 3, 0⟩ : history_Operation), (⟨101, 2, [], [], 5, 6⟩ : history_Operation)]).length 3] : List Value).toArray, .int .i64 0, .int .i64 2]) hs FN17 ⟨rfl, ⟨rfl, ⟨rfl, trivial⟩⟩⟩ (fun ok hA => history_Concurrent.calls (x1 := (⟨[(⟨101, 1, [(⟨5, ([97] : List UInt8), ([98] : List UInt8), 0, []⟩ : api_Effect)], [], 1, 4⟩ : history_Operation), (⟨102, 3, [], [], 3, 0⟩ : history_Operation), (⟨101, 2, [], [], 5, 6⟩ : history_Operation)]⟩ : history_History)) (x5 := 0) (x6 := 2) hxx32 (hA.get 0 rfl)) ?_ (hg := (wanted_of rfl rfl (bool_tr rfl hc31)).trans rfl)
  rintro _ w hs
  refine WL.not rfl ?_ (hg := (wanted_of rfl rfl (bool_tr rfl hc31)).trans rfl)
  refine WL.pickT (v := .bool (!x32)) (bool_tr rfl hc31) rfl ?_
  refine WL.move (v := .bool (!x32)) rfl ?_
  rcases iteE hf with ⟨hc33, hf⟩ | ⟨hc33, hf⟩
  {
  refine WL.loadN (vs := [.slice (some ⟨g4, 0, none⟩) ([(⟨101, 1, [(⟨5, ([97] : List UInt8), ([98] : List UInt8), 0, []⟩ : api_Effect)], [], 1, 4⟩ : history_Operation), (⟨102, 3, [], [], 3, 0⟩ : history_Operation), (⟨101, 2, [], [], 5, 6⟩ : history_Operation)]).length 3]) hs 1 rfl TI24 rfl rfl rfl ?_ (hg := (wanted_of rfl rfl (bool_tr rfl hc33)).trans rfl)
  have hs := hs.add (it := vl t_history_History (⟨[(⟨101, 1, [(⟨5, ([97] : List UInt8), ([98] : List UInt8), 0, []⟩ : api_Effect)], [], 1, 4⟩ : history_Operation), (⟨102, 3, [], [], 3, 0⟩ : history_Operation), (⟨101, 2, [], [], 5, 6⟩ : history_Operation)]⟩ : history_History) (.agg ([.slice (some ⟨g4, 0, none⟩) ([(⟨101, 1, [(⟨5, ([97] : List UInt8), ([98] : List UInt8), 0, []⟩ : api_Effect)], [], 1, 4⟩ : history_Operation), (⟨102, 3, [], [], 3, 0⟩ : history_Operation), (⟨101, 2, [], [], 5, 6⟩ : history_Operation)]).length 3]).toArray)) fun ok hA => V_agg ((R_one (hA.get 11 rfl))) rfl
  obtain ⟨x34, hxx34, hf⟩ := bindE hf
  refine WL.call (vs := [.agg ([.slice (some ⟨g4, 0, none⟩) ([(⟨101, 1, [(⟨5, ([97] : List UInt8), ([98] : List UInt8), 0, []⟩ : api_Effect)], [], 1, 4⟩ : history_Operation), (⟨102, 3, [], [], 3, 0⟩ : history_Operation), (⟨101, 2, [], [], 5, 6⟩ : history_Operation)]).length 3] : List Value).toArray]) hs FN22 ⟨rfl, trivial⟩ (fun ok hA => history_Width.calls (x1 := (⟨[(⟨101, 1, [(⟨5, ([97] : List UInt8), ([98] : List UInt8), 0, []⟩ : api_Effect)], [], 1, 4⟩ : history_Operation), (⟨102, 3, [], [], 3, 0⟩ : history_Operation), (⟨101, 2, [], [], 5, 6⟩ : history_Operation)]⟩ : history_History)) hxx34 (hA.get 0 rfl)) ?_ (hg := (wanted_of rfl rfl (bool_tr rfl hc33)).trans rfl)
  rintro _ w hs
  refine WL.bin (v := .bool (x34 == 2)) rfl rfl (ib_eql _ _ _) ?_ (hg := (wanted_of rfl rfl (bool_tr rfl hc33)).trans rfl)
  refine WL.pickT (v := .bool (x34 == 2)) (bool_tr rfl hc33) rfl ?_
  refine WL.move (v := .bool (x34 == 2)) rfl ?_
  rcases iteE hf with ⟨hc35, hf⟩ | ⟨hc35, hf⟩
  {
  refine WL.move (v := .slice a17 n18 c19) rfl ?_ (hg := (wanted_of rfl rfl (bool_tr rfl hc35)).trans rfl)
  refine WL.len (v := .slice a17 n18 c19) rfl (len_own hs 0 rfl UN31) ?_ (hg := (wanted_of rfl rfl (bool_tr rfl hc35)).trans rfl)
  refine WL.bin (v := .bool ((x16.length : Int) == 1)) rfl rfl (ib_eql _ _ _) ?_ (hg := (wanted_of rfl rfl (bool_tr rfl hc35)).trans rfl)
  refine WL.pickT (v := .bool ((x16.length : Int) == 1)) (bool_tr rfl hc35) rfl ?_
  refine WL.move (v := .bool ((x16.length : Int) == 1)) rfl ?_
  rcases iteE hf with ⟨hc36, hf⟩ | ⟨hc36, hf⟩
  {
  refine WL.move (v := .slice a17 n18 c19) rfl ?_ (hg := (wanted_of rfl rfl (bool_tr rfl hc36)).trans rfl)
  obtain ⟨x37, hxx37, hf⟩ := bindE hf
  refine WL.indexAddrO hs 0 rfl UN31 TI68 rfl rfl hxx37 (fun ad38 hatad38 => ?_) (hg := (wanted_of rfl rfl (bool_tr rfl hc36)).trans rfl)
  refine WL.fieldAddrO (OwnAt.f hatad38) rfl FA68_9 rfl (fun ad39 hatad39 => ?_) (hg := (wanted_of rfl rfl (bool_tr rfl hc36)).trans rfl)
  refine WL.loadOF (z := x37.Flag) F_history_Value_Flag hs 0 rfl TI4 (.inr rfl) hatad39 hxx37 rfl rfl (fun v40 hs => ?_) (hg := (wanted_of rfl rfl (bool_tr rfl hc36)).trans rfl)
  obtain rfl := hs.bool 0 rfl
  refine WL.pickT (v := .bool x37.Flag) (bool_tr rfl hc36) rfl ?_
  refine WL.move (v := .bool x37.Flag) rfl ?_
  rcases iteE hf with ⟨hc41, hf⟩ | ⟨hc41, hf⟩
  {
  refine WL.loadN (vs := [.slice (some ⟨g4, 0, none⟩) ([(⟨101, 1, [(⟨5, ([97] : List UInt8), ([98] : List UInt8), 0, []⟩ : api_Effect)], [], 1, 4⟩ : history_Operation), (⟨102, 3, [], [], 3, 0⟩ : history_Operation), (⟨101, 2, [], [], 5, 6⟩ : history_Operation)]).length 3]) hs 1 rfl TI24 rfl rfl rfl ?_ (hg := (wanted_of rfl rfl (bool_tr rfl hc41)).trans rfl)
  have hs := hs.add (it := vl t_history_History (⟨[(⟨101, 1, [(⟨5, ([97] : List UInt8), ([98] : List UInt8), 0, []⟩ : api_Effect)], [], 1, 4⟩ : history_Operation), (⟨102, 3, [], [], 3, 0⟩ : history_Operation), (⟨101, 2, [], [], 5, 6⟩ : history_Operation)]⟩ : history_History) (.agg ([.slice (some ⟨g4, 0, none⟩) ([(⟨101, 1, [(⟨5, ([97] : List UInt8), ([98] : List UInt8), 0, []⟩ : api_Effect)], [], 1, 4⟩ : history_Operation), (⟨102, 3, [], [], 3, 0⟩ : history_Operation), (⟨101, 2, [], [], 5, 6⟩ : history_Operation)]).length 3]).toArray)) fun ok hA => V_agg ((R_one (hA.get 13 rfl))) rfl
  obtain ⟨x42, hxx42, hf⟩ := bindE hf
  refine WL.call (vs := [.agg ([.slice (some ⟨g4, 0, none⟩) ([(⟨101, 1, [(⟨5, ([97] : List UInt8), ([98] : List UInt8), 0, []⟩ : api_Effect)], [], 1, 4⟩ : history_Operation), (⟨102, 3, [], [], 3, 0⟩ : history_Operation), (⟨101, 2, [], [], 5, 6⟩ : history_Operation)]).length 3] : List Value).toArray, .int .i64 101]) hs FN24 ⟨rfl, ⟨rfl, trivial⟩⟩ (fun ok hA => history_Of.calls (x1 := (⟨[(⟨101, 1, [(⟨5, ([97] : List UInt8), ([98] : List UInt8), 0, []⟩ : api_Effect)], [], 1, 4⟩ : history_Operation), (⟨102, 3, [], [], 3, 0⟩ : history_Operation), (⟨101, 2, [], [], 5, 6⟩ : history_Operation)]⟩ : history_History)) (x5 := 101) hxx42 (hA.get 0 rfl)) ?_ (hg := (wanted_of rfl rfl (bool_tr rfl hc41)).trans rfl)
  rintro ⟨a43, n44, c45⟩ w hs
  refine WL.len (v := .slice a43 n44 c45) rfl (len_own hs 0 rfl UN29) ?_ (hg := (wanted_of rfl rfl (bool_tr rfl hc41)).trans rfl)
  refine WL.bin (v := .bool ((x42.length : Int) == 2)) rfl rfl (ib_eql _ _ _) ?_ (hg := (wanted_of rfl rfl (bool_tr rfl hc41)).trans rfl)
  refine WL.pickT (v := .bool ((x42.length : Int) == 2)) (bool_tr rfl hc41) rfl ?_
  refine WL.move (v := .bool ((x42.length : Int) == 2)) rfl ?_
  rcases iteE hf with ⟨hc46, hf⟩ | ⟨hc46, hf⟩
  {
  refine WL.loadN (vs := [.slice (some ⟨g4, 0, none⟩) ([(⟨101, 1, [(⟨5, ([97] : List UInt8), ([98] : List UInt8), 0, []⟩ : api_Effect)], [], 1, 4⟩ : history_Operation), (⟨102, 3, [], [], 3, 0⟩ : history_Operation), (⟨101, 2, [], [], 5, 6⟩ : history_Operation)]).length 3]) hs 2 rfl TI24 rfl rfl rfl ?_ (hg := (wanted_of rfl rfl (bool_tr rfl hc46)).trans rfl)
  have hs := hs.add (it := vl t_history_History (⟨[(⟨101, 1, [(⟨5, ([97] : List UInt8), ([98] : List UInt8), 0, []⟩ : api_Effect)], [], 1, 4⟩ : history_Operation), (⟨102, 3, [], [], 3, 0⟩ : history_Operation), (⟨101, 2, [], [], 5, 6⟩ : history_Operation)]⟩ : history_History) (.agg ([.slice (some ⟨g4, 0, none⟩) ([(⟨101, 1, [(⟨5, ([97] : List UInt8), ([98] : List UInt8), 0, []⟩ : api_Effect)], [], 1, 4⟩ : history_Operation), (⟨102, 3, [], [], 3, 0⟩ : history_Operation), (⟨101, 2, [], [], 5, 6⟩ : history_Operation)]).length 3]).toArray)) fun ok hA => V_agg ((R_one (hA.get 14 rfl))) rfl
  obtain ⟨x47, hxx47, hf⟩ := bindE hf
  refine WL.call (vs := [.agg ([.slice (some ⟨g4, 0, none⟩) ([(⟨101, 1, [(⟨5, ([97] : List UInt8), ([98] : List UInt8), 0, []⟩ : api_Effect)], [], 1, 4⟩ : history_Operation), (⟨102, 3, [], [], 3, 0⟩ : history_Operation), (⟨101, 2, [], [], 5, 6⟩ : history_Operation)]).length 3] : List Value).toArray, .int .i64 4]) hs FN19 ⟨rfl, ⟨rfl, trivial⟩⟩ (fun ok hA => history_Before.calls (x1 := (⟨[(⟨101, 1, [(⟨5, ([97] : List UInt8), ([98] : List UInt8), 0, []⟩ : api_Effect)], [], 1, 4⟩ : history_Operation), (⟨102, 3, [], [], 3, 0⟩ : history_Operation), (⟨101, 2, [], [], 5, 6⟩ : history_Operation)]⟩ : history_History)) (x5 := 4) hxx47 (hA.get 0 rfl)) ?_ (hg := (wanted_of rfl rfl (bool_tr rfl hc46)).trans rfl)
  rintro ⟨a48, n49, c50⟩ w hs
  obtain rfl := hs.ownLen 0 rfl
  have hs := hs.freezeOwn 0 rfl
  have hs := hs.add (it := vl t_history_History (⟨x47.Operations⟩ : history_History) (.agg [.slice a48 (x47.Operations).length c50].toArray)) fun ok hA => V_agg ((R_one (hA.get 0 rfl))) rfl
  refine WL.fieldV (z := ((⟨x47.Operations⟩ : history_History)).Operations) (l := [.slice a48 (x47.Operations).length c50]) F_history_History_Operations hs 0 rfl rfl rfl FV24_0 TI22 (.inr rfl) rfl (fun v51 hs => ?_) (hg := (wanted_of rfl rfl (bool_tr rfl hc46)).trans rfl)
  obtain ⟨a52, c53, rfl⟩ := hs.slice 0 rfl
  refine WL.len (v := .slice a52 (((⟨x47.Operations⟩ : history_History)).Operations).length c53) rfl (len_slice UN22) ?_ (hg := (wanted_of rfl rfl (bool_tr rfl hc46)).trans rfl)
  refine WL.bin (v := .bool (((((⟨x47.Operations⟩ : history_History)).Operations).length : Int) == 2)) rfl rfl (ib_eql _ _ _) ?_ (hg := (wanted_of rfl rfl (bool_tr rfl hc46)).trans rfl)
  refine WL.pickT (v := .bool (((((⟨x47.Operations⟩ : history_History)).Operations).length : Int) == 2)) (bool_tr rfl hc46) rfl ?_
  refine WL.move (v := .bool (((((⟨x47.Operations⟩ : history_History)).Operations).length : Int) == 2)) rfl ?_
  rcases iteE hf with ⟨hc54, hf⟩ | ⟨hc54, hf⟩
  {
  refine WL.loadN (vs := [.slice (some ⟨g4, 0, none⟩) ([(⟨101, 1, [(⟨5, ([97] : List UInt8), ([98] : List UInt8), 0, []⟩ : api_Effect)], [], 1, 4⟩ : history_Operation), (⟨102, 3, [], [], 3, 0⟩ : history_Operation), (⟨101, 2, [], [], 5, 6⟩ : history_Operation)]).length 3]) hs 2 rfl TI24 rfl rfl rfl ?_ (hg := (wanted_of rfl rfl (bool_tr rfl hc54)).trans rfl)
  have hs := hs.add (it := vl t_history_History (⟨[(⟨101, 1, [(⟨5, ([97] : List UInt8), ([98] : List UInt8), 0, []⟩ : api_Effect)], [], 1, 4⟩ : history_Operation), (⟨102, 3, [], [], 3, 0⟩ : history_Operation), (⟨101, 2, [], [], 5, 6⟩ : history_Operation)]⟩ : history_History) (.agg ([.slice (some ⟨g4, 0, none⟩) ([(⟨101, 1, [(⟨5, ([97] : List UInt8), ([98] : List UInt8), 0, []⟩ : api_Effect)], [], 1, 4⟩ : history_Operation), (⟨102, 3, [], [], 3, 0⟩ : history_Operation), (⟨101, 2, [], [], 5, 6⟩ : history_Operation)]).length 3]).toArray)) fun ok hA => V_agg ((R_one (hA.get 18 rfl))) rfl
  obtain ⟨x55, hxx55, hf⟩ := bindE hf
  refine WL.call (vs := [.agg ([.slice (some ⟨g4, 0, none⟩) ([(⟨101, 1, [(⟨5, ([97] : List UInt8), ([98] : List UInt8), 0, []⟩ : api_Effect)], [], 1, 4⟩ : history_Operation), (⟨102, 3, [], [], 3, 0⟩ : history_Operation), (⟨101, 2, [], [], 5, 6⟩ : history_Operation)]).length 3] : List Value).toArray, .int .i64 4]) hs FN19 ⟨rfl, ⟨rfl, trivial⟩⟩ (fun ok hA => history_Before.calls (x1 := (⟨[(⟨101, 1, [(⟨5, ([97] : List UInt8), ([98] : List UInt8), 0, []⟩ : api_Effect)], [], 1, 4⟩ : history_Operation), (⟨102, 3, [], [], 3, 0⟩ : history_Operation), (⟨101, 2, [], [], 5, 6⟩ : history_Operation)]⟩ : history_History)) (x5 := 4) hxx55 (hA.get 0 rfl)) ?_ (hg := (wanted_of rfl rfl (bool_tr rfl hc54)).trans rfl)
  rintro ⟨a56, n57, c58⟩ w hs
  obtain rfl := hs.ownLen 0 rfl
  have hs := hs.freezeOwn 0 rfl
  have hs := hs.add (it := vl t_history_History (⟨x55.Operations⟩ : history_History) (.agg [.slice a56 (x55.Operations).length c58].toArray)) fun ok hA => V_agg ((R_one (hA.get 0 rfl))) rfl
  refine WL.fieldV (z := ((⟨x55.Operations⟩ : history_History)).Operations) (l := [.slice a56 (x55.Operations).length c58]) F_history_History_Operations hs 0 rfl rfl rfl FV24_0 TI22 (.inr rfl) rfl (fun v59 hs => ?_) (hg := (wanted_of rfl rfl (bool_tr rfl hc54)).trans rfl)
  obtain ⟨a60, c61, rfl⟩ := hs.slice 0 rfl
  obtain ⟨x62, hxx62, hf⟩ := bindE hf
  refine WL.indexAddr hs 0 rfl UN22 TI35 rfl rfl hxx62 (fun ad63 hs => ?_) (hg := (wanted_of rfl rfl (bool_tr rfl hc54)).trans rfl)
  refine WL.fieldAddrP (z := x62.Return) F_history_Operation_Return hs 0 rfl rfl FA35_5 rfl (fun ad64 hs => ?_) (hg := (wanted_of rfl rfl (bool_tr rfl hc54)).trans rfl)
  refine WL.loadP hs 0 rfl TI3 (.inr rfl) rfl (fun v65 hs => ?_) (hg := (wanted_of rfl rfl (bool_tr rfl hc54)).trans rfl)
  obtain rfl := hs.int 0 rfl
  refine WL.bin (v := .bool (x62.Return == 0)) rfl rfl (ib_eql _ _ _) ?_ (hg := (wanted_of rfl rfl (bool_tr rfl hc54)).trans rfl)
  refine WL.pickT (v := .bool (x62.Return == 0)) (bool_tr rfl hc54) rfl ?_
  refine WL.assign (v := .bool (x62.Return == 0)) rfl ?_
  refine WL.nil ?_
  exact Jk23 (x62.Return == 0) _ _ rfl ((hs.mask []).pick []) hf }
  {
  refine WL.pass ((wanted_of rfl rfl (bool_tr rfl hc54)).trans rfl) rfl ?_
  refine WL.pass ((wanted_of rfl rfl (bool_tr rfl hc54)).trans rfl) rfl ?_
  refine WL.pass ((wanted_of rfl rfl (bool_tr rfl hc54)).trans rfl) rfl ?_
  refine WL.pass ((wanted_of rfl rfl (bool_tr rfl hc54)).trans rfl) rfl ?_
  refine WL.pass ((wanted_of rfl rfl (bool_tr rfl hc54)).trans rfl) rfl ?_
  refine WL.pass ((wanted_of rfl rfl (bool_tr rfl hc54)).trans rfl) rfl ?_
  refine WL.pass ((wanted_of rfl rfl (bool_tr rfl hc54)).trans rfl) rfl ?_
  refine WL.pickF (v := .bool false) (bool_tr rfl hc54) rfl ?_
  refine WL.assign (v := .bool false) rfl ?_
  refine WL.nil ?_
  exact Jk23 false _ _ rfl ((hs.mask []).pick []) hf } }
  {
  refine WL.pass ((wanted_of rfl rfl (bool_tr rfl hc46)).trans rfl) rfl ?_
  refine WL.pass ((wanted_of rfl rfl (bool_tr rfl hc46)).trans rfl) rfl ?_
  refine WL.pass ((wanted_of rfl rfl (bool_tr rfl hc46)).trans rfl) rfl ?_
  refine WL.pass ((wanted_of rfl rfl (bool_tr rfl hc46)).trans rfl) rfl ?_
  refine WL.pass ((wanted_of rfl rfl (bool_tr rfl hc46)).trans rfl) rfl ?_
  refine WL.pickF (v := .bool false) (bool_tr rfl hc46) rfl ?_
  refine WL.move (v := .bool false) rfl ?_
  refine WL.pass ((wanted_of rfl rfl rfl).trans rfl) rfl ?_
  refine WL.pass ((wanted_of rfl rfl rfl).trans rfl) rfl ?_
  refine WL.pass ((wanted_of rfl rfl rfl).trans rfl) rfl ?_
  refine WL.pass ((wanted_of rfl rfl rfl).trans rfl) rfl ?_
  refine WL.pass ((wanted_of rfl rfl rfl).trans rfl) rfl ?_
  refine WL.pass ((wanted_of rfl rfl rfl).trans rfl) rfl ?_
  refine WL.pass ((wanted_of rfl rfl rfl).trans rfl) rfl ?_
  refine WL.pickF (v := .bool false) rfl rfl ?_
  refine WL.assign (v := .bool false) rfl ?_
  refine WL.nil ?_
  exact Jk23 false _ _ rfl ((hs.mask []).pick []) hf } }
  {
  refine WL.pass ((wanted_of rfl rfl (bool_tr rfl hc41)).trans rfl) rfl ?_
  refine WL.pass ((wanted_of rfl rfl (bool_tr rfl hc41)).trans rfl) rfl ?_
  refine WL.pass ((wanted_of rfl rfl (bool_tr rfl hc41)).trans rfl) rfl ?_
  refine WL.pass ((wanted_of rfl rfl (bool_tr rfl hc41)).trans rfl) rfl ?_
  refine WL.pickF (v := .bool false) (bool_tr rfl hc41) rfl ?_
  refine WL.move (v := .bool false) rfl ?_
  refine WL.pass ((wanted_of rfl rfl rfl).trans rfl) rfl ?_
  refine WL.pass ((wanted_of rfl rfl rfl).trans rfl) rfl ?_
  refine WL.pass ((wanted_of rfl rfl rfl).trans rfl) rfl ?_
  refine WL.pass ((wanted_of rfl rfl rfl).trans rfl) rfl ?_
  refine WL.pass ((wanted_of rfl rfl rfl).trans rfl) rfl ?_
  refine WL.pickF (v := .bool false) rfl rfl ?_
  refine WL.move (v := .bool false) rfl ?_
  refine WL.pass ((wanted_of rfl rfl rfl).trans rfl) rfl ?_
  refine WL.pass ((wanted_of rfl rfl rfl).trans rfl) rfl ?_
  refine WL.pass ((wanted_of rfl rfl rfl).trans rfl) rfl ?_
  refine WL.pass ((wanted_of rfl rfl rfl).trans rfl) rfl ?_
  refine WL.pass ((wanted_of rfl rfl rfl).trans rfl) rfl ?_
  refine WL.pass ((wanted_of rfl rfl rfl).trans rfl) rfl ?_
  refine WL.pass ((wanted_of rfl rfl rfl).trans rfl) rfl ?_
  refine WL.pickF (v := .bool false) rfl rfl ?_
  refine WL.assign (v := .bool false) rfl ?_
  refine WL.nil ?_
  exact Jk23 false _ _ rfl ((hs.mask []).pick []) hf } }
  {
  refine WL.pass ((wanted_of rfl rfl (bool_tr rfl hc36)).trans rfl) rfl ?_
  refine WL.pass ((wanted_of rfl rfl (bool_tr rfl hc36)).trans rfl) rfl ?_
  refine WL.pass ((wanted_of rfl rfl (bool_tr rfl hc36)).trans rfl) rfl ?_
  refine WL.pass ((wanted_of rfl rfl (bool_tr rfl hc36)).trans rfl) rfl ?_
  refine WL.pickF (v := .bool false) (bool_tr rfl hc36) rfl ?_
  refine WL.move (v := .bool false) rfl ?_
  refine WL.pass ((wanted_of rfl rfl rfl).trans rfl) rfl ?_
  refine WL.pass ((wanted_of rfl rfl rfl).trans rfl) rfl ?_
  refine WL.pass ((wanted_of rfl rfl rfl).trans rfl) rfl ?_
  refine WL.pass ((wanted_of rfl rfl rfl).trans rfl) rfl ?_
  refine WL.pickF (v := .bool false) rfl rfl ?_
  refine WL.move (v := .bool false) rfl ?_
  refine WL.pass ((wanted_of rfl rfl rfl).trans rfl) rfl ?_
  refine WL.pass ((wanted_of rfl rfl rfl).trans rfl) rfl ?_
  refine WL.pass ((wanted_of rfl rfl rfl).trans rfl) rfl ?_
  refine WL.pass ((wanted_of rfl rfl rfl).trans rfl) rfl ?_
  refine WL.pass ((wanted_of rfl rfl rfl).trans rfl) rfl ?_
  refine WL.pickF (v := .bool false) rfl rfl ?_
  refine WL.move (v := .bool false) rfl ?_
  refine WL.pass ((wanted_of rfl rfl rfl).trans rfl) rfl ?_
  refine WL.pass ((wanted_of rfl rfl rfl).trans rfl) rfl ?_
  refine WL.pass ((wanted_of rfl rfl rfl).trans rfl) rfl ?_
  refine WL.pass ((wanted_of rfl rfl rfl).trans rfl) rfl ?_
  refine WL.pass ((wanted_of rfl rfl rfl).trans rfl) rfl ?_
  refine WL.pass ((wanted_of rfl rfl rfl).trans rfl) rfl ?_
  refine WL.pass ((wanted_of rfl rfl rfl).trans rfl) rfl ?_
  refine WL.pickF (v := .bool false) rfl rfl ?_
  refine WL.assign (v := .bool false) rfl ?_
  refine WL.nil ?_
  exact Jk23 false _ _ rfl ((hs.mask []).pick []) hf } }
  {
  refine WL.pass ((wanted_of rfl rfl (bool_tr rfl hc35)).trans rfl) rfl ?_
  refine WL.pass ((wanted_of rfl rfl (bool_tr rfl hc35)).trans rfl) rfl ?_
  refine WL.pass ((wanted_of rfl rfl (bool_tr rfl hc35)).trans rfl) rfl ?_
  refine WL.pickF (v := .bool false) (bool_tr rfl hc35) rfl ?_
  refine WL.move (v := .bool false) rfl ?_
  refine WL.pass ((wanted_of rfl rfl rfl).trans rfl) rfl ?_
  refine WL.pass ((wanted_of rfl rfl rfl).trans rfl) rfl ?_
  refine WL.pass ((wanted_of rfl rfl rfl).trans rfl) rfl ?_
  refine WL.pass ((wanted_of rfl rfl rfl).trans rfl) rfl ?_
  refine WL.pickF (v := .bool false) rfl rfl ?_
  refine WL.move (v := .bool false) rfl ?_
  refine WL.pass ((wanted_of rfl rfl rfl).trans rfl) rfl ?_
  refine WL.pass ((wanted_of rfl rfl rfl).trans rfl) rfl ?_
  refine WL.pass ((wanted_of rfl rfl rfl).trans rfl) rfl ?_
  refine WL.pass ((wanted_of rfl rfl rfl).trans rfl) rfl ?_
  refine WL.pickF (v := .bool false) rfl rfl ?_
  refine WL.move (v := .bool false) rfl ?_
  refine WL.pass ((wanted_of rfl rfl rfl).trans rfl) rfl ?_
  refine WL.pass ((wanted_of rfl rfl rfl).trans rfl) rfl ?_
  refine WL.pass ((wanted_of rfl rfl rfl).trans rfl) rfl ?_
  refine WL.pass ((wanted_of rfl rfl rfl).trans rfl) rfl ?_
  refine WL.pass ((wanted_of rfl rfl rfl).trans rfl) rfl ?_
  refine WL.pickF (v := .bool false) rfl rfl ?_
  refine WL.move (v := .bool false) rfl ?_
  refine WL.pass ((wanted_of rfl rfl rfl).trans rfl) rfl ?_
  refine WL.pass ((wanted_of rfl rfl rfl).trans rfl) rfl ?_
  refine WL.pass ((wanted_of rfl rfl rfl).trans rfl) rfl ?_
  refine WL.pass ((wanted_of rfl rfl rfl).trans rfl) rfl ?_
  refine WL.pass ((wanted_of rfl rfl rfl).trans rfl) rfl ?_
  refine WL.pass ((wanted_of rfl rfl rfl).trans rfl) rfl ?_
  refine WL.pass ((wanted_of rfl rfl rfl).trans rfl) rfl ?_
  refine WL.pickF (v := .bool false) rfl rfl ?_
  refine WL.assign (v := .bool false) rfl ?_
  refine WL.nil ?_
  exact Jk23 false _ _ rfl ((hs.mask []).pick []) hf } }
  {
  refine WL.pass ((wanted_of rfl rfl (bool_tr rfl hc33)).trans rfl) rfl ?_
  refine WL.pass ((wanted_of rfl rfl (bool_tr rfl hc33)).trans rfl) rfl ?_
  refine WL.pass ((wanted_of rfl rfl (bool_tr rfl hc33)).trans rfl) rfl ?_
  refine WL.pickF (v := .bool false) (bool_tr rfl hc33) rfl ?_
  refine WL.move (v := .bool false) rfl ?_
  refine WL.pass ((wanted_of rfl rfl rfl).trans rfl) rfl ?_
  refine WL.pass ((wanted_of rfl rfl rfl).trans rfl) rfl ?_
  refine WL.pass ((wanted_of rfl rfl rfl).trans rfl) rfl ?_
  refine WL.pickF (v := .bool false) rfl rfl ?_
  refine WL.move (v := .bool false) rfl ?_
  refine WL.pass ((wanted_of rfl rfl rfl).trans rfl) rfl ?_
  refine WL.pass ((wanted_of rfl rfl rfl).trans rfl) rfl ?_
  refine WL.pass ((wanted_of rfl rfl rfl).trans rfl) rfl ?_
  refine WL.pass ((wanted_of rfl rfl rfl).trans rfl) rfl ?_
  refine WL.pickF (v := .bool false) rfl rfl ?_
  refine WL.move (v := .bool false) rfl ?_
  refine WL.pass ((wanted_of rfl rfl rfl).trans rfl) rfl ?_
  refine WL.pass ((wanted_of rfl rfl rfl).trans rfl) rfl ?_
  refine WL.pass ((wanted_of rfl rfl rfl).trans rfl) rfl ?_
  refine WL.pass ((wanted_of rfl rfl rfl).trans rfl) rfl ?_
  refine WL.pickF (v := .bool false) rfl rfl ?_
  refine WL.move (v := .bool false) rfl ?_
  refine WL.pass ((wanted_of rfl rfl rfl).trans rfl) rfl ?_
  refine WL.pass ((wanted_of rfl rfl rfl).trans rfl) rfl ?_
  refine WL.pass ((wanted_of rfl rfl rfl).trans rfl) rfl ?_
  refine WL.pass ((wanted_of rfl rfl rfl).trans rfl) rfl ?_
  refine WL.pass ((wanted_of rfl rfl rfl).trans rfl) rfl ?_
  refine WL.pickF (v := .bool false) rfl rfl ?_
  refine WL.move (v := .bool false) rfl ?_
  refine WL.pass ((wanted_of rfl rfl rfl).trans rfl) rfl ?_
  refine WL.pass ((wanted_of rfl rfl rfl).trans rfl) rfl ?_
  refine WL.pass ((wanted_of rfl rfl rfl).trans rfl) rfl ?_
  refine WL.pass ((wanted_of rfl rfl rfl).trans rfl) rfl ?_
  refine WL.pass ((wanted_of rfl rfl rfl).trans rfl) rfl ?_
  refine WL.pass ((wanted_of rfl rfl rfl).trans rfl) rfl ?_
  refine WL.pass ((wanted_of rfl rfl rfl).trans rfl) rfl ?_
  refine WL.pickF (v := .bool false) rfl rfl ?_
  refine WL.assign (v := .bool false) rfl ?_
  refine WL.nil ?_
  exact Jk23 false _ _ rfl ((hs.mask []).pick []) hf } }
  {
  refine WL.pass ((wanted_of rfl rfl (bool_tr rfl hc31)).trans rfl) rfl ?_
  refine WL.pass ((wanted_of rfl rfl (bool_tr rfl hc31)).trans rfl) rfl ?_
  refine WL.pass ((wanted_of rfl rfl (bool_tr rfl hc31)).trans rfl) rfl ?_
  refine WL.pickF (v := .bool false) (bool_tr rfl hc31) rfl ?_
  refine WL.move (v := .bool false) rfl ?_
  refine WL.pass ((wanted_of rfl rfl rfl).trans rfl) rfl ?_
  refine WL.pass ((wanted_of rfl rfl rfl).trans rfl) rfl ?_
  refine WL.pass ((wanted_of rfl rfl rfl).trans rfl) rfl ?_
  refine WL.pickF (v := .bool false) rfl rfl ?_
  refine WL.move (v := .bool false) rfl ?_
  refine WL.pass ((wanted_of rfl rfl rfl).trans rfl) rfl ?_
  refine WL.pass ((wanted_of rfl rfl rfl).trans rfl) rfl ?_
  refine WL.pass ((wanted_of rfl rfl rfl).trans rfl) rfl ?_
  refine WL.pickF (v := .bool false) rfl rfl ?_
  refine WL.move (v := .bool false) rfl ?_
  refine WL.pass ((wanted_of rfl rfl rfl).trans rfl) rfl ?_
  refine WL.pass ((wanted_of rfl rfl rfl).trans rfl) rfl ?_
  refine WL.pass ((wanted_of rfl rfl rfl).trans rfl) rfl ?_
  refine WL.pass ((wanted_of rfl rfl rfl).trans rfl) rfl ?_
  refine WL.pickF (v := .bool false) rfl rfl ?_
  refine WL.move (v := .bool false) rfl ?_
  refine WL.pass ((wanted_of rfl rfl rfl).trans rfl) rfl ?_
  refine WL.pass ((wanted_of rfl rfl rfl).trans rfl) rfl ?_
  refine WL.pass ((wanted_of rfl rfl rfl).trans rfl) rfl ?_
  refine WL.pass ((wanted_of rfl rfl rfl).trans rfl) rfl ?_
  refine WL.pickF (v := .bool false) rfl rfl ?_
  refine WL.move (v := .bool false) rfl ?_
  refine WL.pass ((wanted_of rfl rfl rfl).trans rfl) rfl ?_
  refine WL.pass ((wanted_of rfl rfl rfl).trans rfl) rfl ?_
  refine WL.pass ((wanted_of rfl rfl rfl).trans rfl) rfl ?_
  refine WL.pass ((wanted_of rfl rfl rfl).trans rfl) rfl ?_
  refine WL.pass ((wanted_of rfl rfl rfl).trans rfl) rfl ?_
  refine WL.pickF (v := .bool false) rfl rfl ?_
  refine WL.move (v := .bool false) rfl ?_
  refine WL.pass ((wanted_of rfl rfl rfl).trans rfl) rfl ?_
  refine WL.pass ((wanted_of rfl rfl rfl).trans rfl) rfl ?_
  refine WL.pass ((wanted_of rfl rfl rfl).trans rfl) rfl ?_
  refine WL.pass ((wanted_of rfl rfl rfl).trans rfl) rfl ?_
  refine WL.pass ((wanted_of rfl rfl rfl).trans rfl) rfl ?_
  refine WL.pass ((wanted_of rfl rfl rfl).trans rfl) rfl ?_
  refine WL.pass ((wanted_of rfl rfl rfl).trans rfl) rfl ?_
  refine WL.pickF (v := .bool false) rfl rfl ?_
  refine WL.assign (v := .bool false) rfl ?_
  refine WL.nil ?_
  exact Jk23 false _ _ rfl ((hs.mask []).pick []) hf } }
  {
  refine WL.pass ((wanted_of rfl rfl (bool_tr rfl hc29)).trans rfl) rfl ?_
  refine WL.pass ((wanted_of rfl rfl (bool_tr rfl hc29)).trans rfl) rfl ?_
  refine WL.pickF (v := .bool false) (bool_tr rfl hc29) rfl ?_
  refine WL.move (v := .bool false) rfl ?_
  refine WL.pass ((wanted_of rfl rfl rfl).trans rfl) rfl ?_
  refine WL.pass ((wanted_of rfl rfl rfl).trans rfl) rfl ?_
  refine WL.pass ((wanted_of rfl rfl rfl).trans rfl) rfl ?_
  refine WL.pickF (v := .bool false) rfl rfl ?_
  refine WL.move (v := .bool false) rfl ?_
  refine WL.pass ((wanted_of rfl rfl rfl).trans rfl) rfl ?_
  refine WL.pass ((wanted_of rfl rfl rfl).trans rfl) rfl ?_
  refine WL.pass ((wanted_of rfl rfl rfl).trans rfl) rfl ?_
  refine WL.pickF (v := .bool false) rfl rfl ?_
  refine WL.move (v := .bool false) rfl ?_
  refine WL.pass ((wanted_of rfl rfl rfl).trans rfl) rfl ?_
  refine WL.pass ((wanted_of rfl rfl rfl).trans rfl) rfl ?_
  refine WL.pass ((wanted_of rfl rfl rfl).trans rfl) rfl ?_
  refine WL.pickF (v := .bool false) rfl rfl ?_
  refine WL.move (v := .bool false) rfl ?_
  refine WL.pass ((wanted_of rfl rfl rfl).trans rfl) rfl ?_
  refine WL.pass ((wanted_of rfl rfl rfl).trans rfl) rfl ?_
  refine WL.pass ((wanted_of rfl rfl rfl).trans rfl) rfl ?_
  refine WL.pass ((wanted_of rfl rfl rfl).trans rfl) rfl ?_
  refine WL.pickF (v := .bool false) rfl rfl ?_
  refine WL.move (v := .bool false) rfl ?_
  refine WL.pass ((wanted_of rfl rfl rfl).trans rfl) rfl ?_
  refine WL.pass ((wanted_of rfl rfl rfl).trans rfl) rfl ?_
  refine WL.pass ((wanted_of rfl rfl rfl).trans rfl) rfl ?_
  refine WL.pass ((wanted_of rfl rfl rfl).trans rfl) rfl ?_
  refine WL.pickF (v := .bool false) rfl rfl ?_
  refine WL.move (v := .bool false) rfl ?_
  refine WL.pass ((wanted_of rfl rfl rfl).trans rfl) rfl ?_
  refine WL.pass ((wanted_of rfl rfl rfl).trans rfl) rfl ?_
  refine WL.pass ((wanted_of rfl rfl rfl).trans rfl) rfl ?_
  refine WL.pass ((wanted_of rfl rfl rfl).trans rfl) rfl ?_
  refine WL.pass ((wanted_of rfl rfl rfl).trans rfl) rfl ?_
  refine WL.pickF (v := .bool false) rfl rfl ?_
  refine WL.move (v := .bool false) rfl ?_
  refine WL.pass ((wanted_of rfl rfl rfl).trans rfl) rfl ?_
  refine WL.pass ((wanted_of rfl rfl rfl).trans rfl) rfl ?_
  refine WL.pass ((wanted_of rfl rfl rfl).trans rfl) rfl ?_
  refine WL.pass ((wanted_of rfl rfl rfl).trans rfl) rfl ?_
  refine WL.pass ((wanted_of rfl rfl rfl).trans rfl) rfl ?_
  refine WL.pass ((wanted_of rfl rfl rfl).trans rfl) rfl ?_
  refine WL.pass ((wanted_of rfl rfl rfl).trans rfl) rfl ?_
  refine WL.pickF (v := .bool false) rfl rfl ?_
  refine WL.assign (v := .bool false) rfl ?_
  refine WL.nil ?_
  exact Jk23 false _ _ rfl ((hs.mask []).pick []) hf } }
  {
  refine WL.pass ((wanted_of rfl rfl (bool_tr rfl hc27)).trans rfl) rfl ?_
  refine WL.pass ((wanted_of rfl rfl (bool_tr rfl hc27)).trans rfl) rfl ?_
  refine WL.pass ((wanted_of rfl rfl (bool_tr rfl hc27)).trans rfl) rfl ?_
  refine WL.pickF (v := .bool false) (bool_tr rfl hc27) rfl ?_
  refine WL.move (v := .bool false) rfl ?_
  refine WL.pass ((wanted_of rfl rfl rfl).trans rfl) rfl ?_
  refine WL.pass ((wanted_of rfl rfl rfl).trans rfl) rfl ?_
  refine WL.pickF (v := .bool false) rfl rfl ?_
  refine WL.move (v := .bool false) rfl ?_
  refine WL.pass ((wanted_of rfl rfl rfl).trans rfl) rfl ?_
  refine WL.pass ((wanted_of rfl rfl rfl).trans rfl) rfl ?_
  refine WL.pass ((wanted_of rfl rfl rfl).trans rfl) rfl ?_
  refine WL.pickF (v := .bool false) rfl rfl ?_
  refine WL.move (v := .bool false) rfl ?_
  refine WL.pass ((wanted_of rfl rfl rfl).trans rfl) rfl ?_
  refine WL.pass ((wanted_of rfl rfl rfl).trans rfl) rfl ?_
  refine WL.pass ((wanted_of rfl rfl rfl).trans rfl) rfl ?_
  refine WL.pickF (v := .bool false) rfl rfl ?_
  refine WL.move (v := .bool false) rfl ?_
  refine WL.pass ((wanted_of rfl rfl rfl).trans rfl) rfl ?_
  refine WL.pass ((wanted_of rfl rfl rfl).trans rfl) rfl ?_
  refine WL.pass ((wanted_of rfl rfl rfl).trans rfl) rfl ?_
  refine WL.pickF (v := .bool false) rfl rfl ?_
  refine WL.move (v := .bool false) rfl ?_
  refine WL.pass ((wanted_of rfl rfl rfl).trans rfl) rfl ?_
  refine WL.pass ((wanted_of rfl rfl rfl).trans rfl) rfl ?_
  refine WL.pass ((wanted_of rfl rfl rfl).trans rfl) rfl ?_
  refine WL.pass ((wanted_of rfl rfl rfl).trans rfl) rfl ?_
  refine WL.pickF (v := .bool false) rfl rfl ?_
  refine WL.move (v := .bool false) rfl ?_
  refine WL.pass ((wanted_of rfl rfl rfl).trans rfl) rfl ?_
  refine WL.pass ((wanted_of rfl rfl rfl).trans rfl) rfl ?_
  refine WL.pass ((wanted_of rfl rfl rfl).trans rfl) rfl ?_
  refine WL.pass ((wanted_of rfl rfl rfl).trans rfl) rfl ?_
  refine WL.pickF (v := .bool false) rfl rfl ?_
  refine WL.move (v := .bool false) rfl ?_
  refine WL.pass ((wanted_of rfl rfl rfl).trans rfl) rfl ?_
  refine WL.pass ((wanted_of rfl rfl rfl).trans rfl) rfl ?_
  refine WL.pass ((wanted_of rfl rfl rfl).trans rfl) rfl ?_
  refine WL.pass ((wanted_of rfl rfl rfl).trans rfl) rfl ?_
  refine WL.pass ((wanted_of rfl rfl rfl).trans rfl) rfl ?_
  refine WL.pickF (v := .bool false) rfl rfl ?_
  refine WL.move (v := .bool false) rfl ?_
  refine WL.pass ((wanted_of rfl rfl rfl).trans rfl) rfl ?_
  refine WL.pass ((wanted_of rfl rfl rfl).trans rfl) rfl ?_
  refine WL.pass ((wanted_of rfl rfl rfl).trans rfl) rfl ?_
  refine WL.pass ((wanted_of rfl rfl rfl).trans rfl) rfl ?_
  refine WL.pass ((wanted_of rfl rfl rfl).trans rfl) rfl ?_
  refine WL.pass ((wanted_of rfl rfl rfl).trans rfl) rfl ?_
  refine WL.pass ((wanted_of rfl rfl rfl).trans rfl) rfl ?_
  refine WL.pickF (v := .bool false) rfl rfl ?_
  refine WL.assign (v := .bool false) rfl ?_
  refine WL.nil ?_
  exact Jk23 false _ _ rfl ((hs.mask []).pick []) hf } }
  {
  refine WL.pass ((wanted_of rfl rfl (bool_tr rfl hc25)).trans rfl) rfl ?_
  refine WL.pass ((wanted_of rfl rfl (bool_tr rfl hc25)).trans rfl) rfl ?_
  refine WL.pickF (v := .bool false) (bool_tr rfl hc25) rfl ?_
  refine WL.move (v := .bool false) rfl ?_
  refine WL.pass ((wanted_of rfl rfl rfl).trans rfl) rfl ?_
  refine WL.pass ((wanted_of rfl rfl rfl).trans rfl) rfl ?_
  refine WL.pass ((wanted_of rfl rfl rfl).trans rfl) rfl ?_
  refine WL.pickF (v := .bool false) rfl rfl ?_
  refine WL.move (v := .bool false) rfl ?_
  refine WL.pass ((wanted_of rfl rfl rfl).trans rfl) rfl ?_
  refine WL.pass ((wanted_of rfl rfl rfl).trans rfl) rfl ?_
  refine WL.pickF (v := .bool false) rfl rfl ?_
  refine WL.move (v := .bool false) rfl ?_
  refine WL.pass ((wanted_of rfl rfl rfl).trans rfl) rfl ?_
  refine WL.pass ((wanted_of rfl rfl rfl).trans rfl) rfl ?_
  refine WL.pass ((wanted_of rfl rfl rfl).trans rfl) rfl ?_
  refine WL.pickF (v := .bool false) rfl rfl ?_
  refine WL.move (v := .bool false) rfl ?_
  refine WL.pass ((wanted_of rfl rfl rfl).trans rfl) rfl ?_
  refine WL.pass ((wanted_of rfl rfl rfl).trans rfl) rfl ?_
  refine WL.pass ((wanted_of rfl rfl rfl).trans rfl) rfl ?_
  refine WL.pickF (v := .bool false) rfl rfl ?_
  refine WL.move (v := .bool false) rfl ?_
  refine WL.pass ((wanted_of rfl rfl rfl).trans rfl) rfl ?_
  refine WL.pass ((wanted_of rfl rfl rfl).trans rfl) rfl ?_
  refine WL.pass ((wanted_of rfl rfl rfl).trans rfl) rfl ?_
  refine WL.pickF (v := .bool false) rfl rfl ?_
  refine WL.move (v := .bool false) rfl ?_
  refine WL.pass ((wanted_of rfl rfl rfl).trans rfl) rfl ?_
  refine WL.pass ((wanted_of rfl rfl rfl).trans rfl) rfl ?_
  refine WL.pass ((wanted_of rfl rfl rfl).trans rfl) rfl ?_
  refine WL.pass ((wanted_of rfl rfl rfl).trans rfl) rfl ?_
  refine WL.pickF (v := .bool false) rfl rfl ?_
  refine WL.move (v := .bool false) rfl ?_
  refine WL.pass ((wanted_of rfl rfl rfl).trans rfl) rfl ?_
  refine WL.pass ((wanted_of rfl rfl rfl).trans rfl) rfl ?_
  refine WL.pass ((wanted_of rfl rfl rfl).trans rfl) rfl ?_
  refine WL.pass ((wanted_of rfl rfl rfl).trans rfl) rfl ?_
  refine WL.pickF (v := .bool false) rfl rfl ?_
  refine WL.move (v := .bool false) rfl ?_
  refine WL.pass ((wanted_of rfl rfl rfl).trans rfl) rfl ?_
  refine WL.pass ((wanted_of rfl rfl rfl).trans rfl) rfl ?_
  refine WL.pass ((wanted_of rfl rfl rfl).trans rfl) rfl ?_
  refine WL.pass ((wanted_of rfl rfl rfl).trans rfl) rfl ?_
  refine WL.pass ((wanted_of rfl rfl rfl).trans rfl) rfl ?_
  refine WL.pickF (v := .bool false) rfl rfl ?_
  refine WL.move (v := .bool false) rfl ?_
  refine WL.pass ((wanted_of rfl rfl rfl).trans rfl) rfl ?_
  refine WL.pass ((wanted_of rfl rfl rfl).trans rfl) rfl ?_
  refine WL.pass ((wanted_of rfl rfl rfl).trans rfl) rfl ?_
  refine WL.pass ((wanted_of rfl rfl rfl).trans rfl) rfl ?_
  refine WL.pass ((wanted_of rfl rfl rfl).trans rfl) rfl ?_
  refine WL.pass ((wanted_of rfl rfl rfl).trans rfl) rfl ?_
  refine WL.pass ((wanted_of rfl rfl rfl).trans rfl) rfl ?_
  refine WL.pickF (v := .bool false) rfl rfl ?_
  refine WL.assign (v := .bool false) rfl ?_
  refine WL.nil ?_
  exact Jk23 false _ _ rfl ((hs.mask []).pick []) hf }
end Go.Proofs.Ytbbeobiampbddaa
