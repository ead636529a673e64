/- What the row leans on, as few texts. -/
import Derived.Test.YtbbeobiampbddaaQHV2
import Derived.Test.YtbbeobiampbddaaQHV1
import Derived.Test.YtbbeobiampbddaaQHV3
import Derived.Test.YtbbeobiampbddaaQHV4
set_option linter.unusedVariables false
set_option linter.unusedSimpArgs false
namespace Go.Proofs.Ytbbeobiampbddaa
open Go Go.RowKit Go.Proofs.YtbbeobiampbddaaL
set_option maxRecDepth 100000
set_option maxHeartbeats 4000000
theorem eslaw38_awake.calls {ok : Nat → Prop} {w0 : World}   {r : Bool} (hf : eslaw38_awake = some r)  :
    Calls Try.prog 10 #[] w0 fun e w' => ∃ v, e = .returned v ∧ ∃ y : Unit, v = .bool r ∧ St ok (bz w0) w' [] [] := by
  unfold eslaw38_awake at hf
  refine calls_of_W (fn := Try.f10) (N := 78) Try.func10 rfl Try.ntmps10 rfl ?_
  have hs : St ok (bz w0) w0 [] [] := St.init All.nil
  refine W.seqK fun K1 hK1 => ?_
  refine W.region ?_
  refine WL.assign (v := .bool false) rfl ?_
  refine WL.nil ?_
  refine hK1 _ _ ?_
  refine W.seqK fun K2 hK2 => ?_
  refine W.region ?_
  refine WL.build (vs := [(0, .int .i64 5), (1, bstr ([97] : List UInt8)), (2, bstr ([98] : List UInt8))]) (cs := [.int .i64 5, bstr ([97] : List UInt8), bstr ([98] : List UInt8), .int .i64 0, bstr []]) ⟨⟨rfl, rfl⟩, ⟨⟨rfl, rfl⟩, ⟨⟨rfl, rfl⟩, trivial⟩⟩⟩ (bld PL72 rfl) ?_
  refine WL.buildSlice (n := 1) (vs := [(0, .agg ([.int .i64 5, bstr ([97] : List UInt8), bstr ([98] : List UInt8), .int .i64 0, bstr []] : List Value).toArray)]) (cs := [.int .i64 5, bstr ([97] : List UInt8), bstr ([98] : List UInt8), .int .i64 0, bstr []]) hs ⟨⟨rfl, rfl⟩, trivial⟩ (bls PS30 (by decide) rfl) (fun g3 w hs => ?_)
  refine WL.build (vs := [(0, .int .i64 101), (1, .int .i64 1), (2, .slice (some ⟨g3, 0, none⟩) ([(⟨5, ([97] : List UInt8), ([98] : List UInt8), 0, []⟩ : api_Effect)]).length 1), (4, .int .i64 1), (5, .int .i64 4)]) (cs := [.int .i64 101, .int .i64 1, .slice (some ⟨g3, 0, none⟩) ([(⟨5, ([97] : List UInt8), ([98] : List UInt8), 0, []⟩ : api_Effect)]).length 1, .slice none 0 0, .int .i64 1, .int .i64 4]) ⟨⟨rfl, rfl⟩, ⟨⟨rfl, rfl⟩, ⟨⟨rfl, rfl⟩, ⟨⟨rfl, rfl⟩, ⟨⟨rfl, rfl⟩, trivial⟩⟩⟩⟩⟩ (bld PL35 rfl) ?_
  refine WL.build (vs := [(0, .int .i64 102), (1, .int .i64 3), (4, .int .i64 3)]) (cs := [.int .i64 102, .int .i64 3, .slice none 0 0, .slice none 0 0, .int .i64 3, .int .i64 0]) ⟨⟨rfl, rfl⟩, ⟨⟨rfl, rfl⟩, ⟨⟨rfl, rfl⟩, trivial⟩⟩⟩ (bld PL35 rfl) ?_
  refine WL.build (vs := [(0, .int .i64 101), (1, .int .i64 2), (4, .int .i64 5), (5, .int .i64 6)]) (cs := [.int .i64 101, .int .i64 2, .slice none 0 0, .slice none 0 0, .int .i64 5, .int .i64 6]) ⟨⟨rfl, rfl⟩, ⟨⟨rfl, rfl⟩, ⟨⟨rfl, rfl⟩, ⟨⟨rfl, rfl⟩, trivial⟩⟩⟩⟩ (bld PL35 rfl) ?_
  refine WL.buildSlice (n := 3) (vs := [(0, .agg ([.int .i64 101, .int .i64 1, .slice (some ⟨g3, 0, none⟩) ([(⟨5, ([97] : List UInt8), ([98] : List UInt8), 0, []⟩ : api_Effect)]).length 1, .slice none 0 0, .int .i64 1, .int .i64 4] : List Value).toArray), (1, .agg ([.int .i64 102, .int .i64 3, .slice none 0 0, .slice none 0 0, .int .i64 3, .int .i64 0] : List Value).toArray), (2, .agg ([.int .i64 101, .int .i64 2, .slice none 0 0, .slice none 0 0, .int .i64 5, .int .i64 6] : List Value).toArray)]) (cs := [.int .i64 101, .int .i64 1, .slice (some ⟨g3, 0, none⟩) ([(⟨5, ([97] : List UInt8), ([98] : List UInt8), 0, []⟩ : api_Effect)]).length 1, .slice none 0 0, .int .i64 1, .int .i64 4, .int .i64 102, .int .i64 3, .slice none 0 0, .slice none 0 0, .int .i64 3, .int .i64 0, .int .i64 101, .int .i64 2, .slice none 0 0, .slice none 0 0, .int .i64 5, .int .i64 6]) hs ⟨⟨rfl, rfl⟩, ⟨⟨rfl, rfl⟩, ⟨⟨rfl, rfl⟩, trivial⟩⟩⟩ (bls PS22 (by decide) rfl) (fun g4 w hs => ?_)
  refine WL.build (vs := [(0, .slice (some ⟨g4, 0, none⟩) ([(⟨101, 1, [(⟨5, ([97] : List UInt8), ([98] : List UInt8), 0, []⟩ : api_Effect)], [], 1, 4⟩ : history_Operation), (⟨102, 3, [], [], 3, 0⟩ : history_Operation), (⟨101, 2, [], [], 5, 6⟩ : history_Operation)]).length 3)]) (cs := [.slice (some ⟨g4, 0, none⟩) ([(⟨101, 1, [(⟨5, ([97] : List UInt8), ([98] : List UInt8), 0, []⟩ : api_Effect)], [], 1, 4⟩ : history_Operation), (⟨102, 3, [], [], 3, 0⟩ : history_Operation), (⟨101, 2, [], [], 5, 6⟩ : history_Operation)]).length 3]) ⟨⟨rfl, rfl⟩, trivial⟩ (bld PL24 rfl) ?_
  refine WL.alloc hs ZV24 (fun g5 w hs => ?_)
  refine WL.storeAll (vs := [.slice (some ⟨g4, 0, none⟩) ([(⟨101, 1, [(⟨5, ([97] : List UInt8), ([98] : List UInt8), 0, []⟩ : api_Effect)], [], 1, 4⟩ : history_Operation), (⟨102, 3, [], [], 3, 0⟩ : history_Operation), (⟨101, 2, [], [], 5, 6⟩ : history_Operation)]).length 3]) hs 0 rfl TI24 rfl rfl rfl rfl (ones_of rfl) rfl (fun w hs => ?_)
  refine WL.nil ?_
  refine hK2 _ _ ?_
  refine W.seqK fun K6 hK6 => ?_
  refine W.region ?_
  refine WL.build (vs := []) (cs := [.slice none 0 0]) trivial (bld PL50 rfl) ?_
  refine WL.fieldAddr (m := 0) rfl FA24_0 rfl ?_
  refine WL.load1 (v := .slice (some ⟨g4, 0, none⟩) ([(⟨101, 1, [(⟨5, ([97] : List UInt8), ([98] : List UInt8), 0, []⟩ : api_Effect)], [], 1, 4⟩ : history_Operation), (⟨102, 3, [], [], 3, 0⟩ : history_Operation), (⟨101, 2, [], [], 5, 6⟩ : history_Operation)]).length 3) hs 0 rfl TI22 rfl rfl ?_
  have hs := hs.ownLit (A := t_api_Effect) (xs := [(⟨5, ([97] : List UInt8), ([98] : List UInt8), 0, []⟩ : api_Effect)]) 2 rfl (fun ok hA => (Cells.one (T := t_api_Effect) (show t_api_Effect.R ok _ (⟨5, ([97] : List UInt8), ([98] : List UInt8), 0, []⟩ : api_Effect) _ from ⟨[.int .i64 5], ([bstr ([97] : List UInt8), bstr ([98] : List UInt8), .int .i64 0, bstr []]), rfl, rfl, ⟨([bstr ([97] : List UInt8)]), ([bstr ([98] : List UInt8), .int .i64 0, bstr []]), rfl, rfl, ⟨([bstr ([98] : List UInt8)]), ([.int .i64 0, bstr []]), rfl, rfl, ⟨[.int .i64 0], ([bstr []]), rfl, rfl, rfl⟩⟩⟩⟩))) (Nat.le_of_ble_eq_true rfl)
  have hs := hs.freezeOwn 2 rfl
  have hs := hs.ownLit (A := t_history_Operation) (xs := [(⟨101, 1, [(⟨5, ([97] : List UInt8), ([98] : List UInt8), 0, []⟩ : api_Effect)], [], 1, 4⟩ : history_Operation), (⟨102, 3, [], [], 3, 0⟩ : history_Operation), (⟨101, 2, [], [], 5, 6⟩ : history_Operation)]) 1 rfl (fun ok hA => (Cells.app (Cells.one (T := t_history_Operation) (show t_history_Operation.R ok _ (⟨101, 1, [(⟨5, ([97] : List UInt8), ([98] : List UInt8), 0, []⟩ : api_Effect)], [], 1, 4⟩ : history_Operation) _ from ⟨[.int .i64 101], ([.int .i64 1, .slice (some ⟨g3, 0, none⟩) ([(⟨5, ([97] : List UInt8), ([98] : List UInt8), 0, []⟩ : api_Effect)]).length 1, .slice none 0 0, .int .i64 1, .int .i64 4]), rfl, rfl, ⟨[.int .i64 1], ([.slice (some ⟨g3, 0, none⟩) ([(⟨5, ([97] : List UInt8), ([98] : List UInt8), 0, []⟩ : api_Effect)]).length 1, .slice none 0 0, .int .i64 1, .int .i64 4]), rfl, rfl, ⟨([.slice (some ⟨g3, 0, none⟩) ([(⟨5, ([97] : List UInt8), ([98] : List UInt8), 0, []⟩ : api_Effect)]).length 1]), [.slice none 0 0, .int .i64 1, .int .i64 4], rfl, (R_one (hA.get 0 rfl)), ⟨[.slice none 0 0], [.int .i64 1, .int .i64 4], rfl, R_nil, ⟨[.int .i64 1], [.int .i64 4], rfl, rfl, rfl⟩⟩⟩⟩⟩)) (Cells.app (Cells.one (T := t_history_Operation) (show t_history_Operation.R ok _ (⟨102, 3, [], [], 3, 0⟩ : history_Operation) _ from ⟨[.int .i64 102], [.int .i64 3, .slice none 0 0, .slice none 0 0, .int .i64 3, .int .i64 0], rfl, rfl, ⟨[.int .i64 3], [.slice none 0 0, .slice none 0 0, .int .i64 3, .int .i64 0], rfl, rfl, ⟨[.slice none 0 0], [.slice none 0 0, .int .i64 3, .int .i64 0], rfl, R_nil, ⟨[.slice none 0 0], [.int .i64 3, .int .i64 0], rfl, R_nil, ⟨[.int .i64 3], [.int .i64 0], rfl, rfl, rfl⟩⟩⟩⟩⟩)) (Cells.one (T := t_history_Operation) (show t_history_Operation.R ok _ (⟨101, 2, [], [], 5, 6⟩ : history_Operation) _ from ⟨[.int .i64 101], [.int .i64 2, .slice none 0 0, .slice none 0 0, .int .i64 5, .int .i64 6], rfl, rfl, ⟨[.int .i64 2], [.slice none 0 0, .slice none 0 0, .int .i64 5, .int .i64 6], rfl, rfl, ⟨[.slice none 0 0], [.slice none 0 0, .int .i64 5, .int .i64 6], rfl, R_nil, ⟨[.slice none 0 0], [.int .i64 5, .int .i64 6], rfl, R_nil, ⟨[.int .i64 5], [.int .i64 6], rfl, rfl, rfl⟩⟩⟩⟩⟩))))) (Nat.le_of_ble_eq_true rfl)
  have hs := hs.freezeOwn 1 rfl
  obtain ⟨x7, hxx7, hf⟩ := bindE hf
  refine WL.indexAddr hs 0 rfl UN22 TI35 rfl rfl hxx7 (fun ad8 hs => ?_)
  refine WL.fieldAddrP (z := x7.Effects) F_history_Operation_Effects hs 0 rfl rfl FA35_2 rfl (fun ad9 hs => ?_)
  refine WL.loadP hs 0 rfl TI30 (.inr rfl) rfl (fun v10 hs => ?_)
  obtain ⟨a11, c12, rfl⟩ := hs.slice 0 rfl
  refine WL.build (vs := [(0, .int .i64 101), (1, .int .i64 1), (3, .slice a11 (x7.Effects).length c12)]) (cs := [.int .i64 101, .int .i64 1, .int .i64 0, .slice a11 (x7.Effects).length c12]) ⟨⟨rfl, rfl⟩, ⟨⟨rfl, rfl⟩, ⟨⟨rfl, rfl⟩, trivial⟩⟩⟩ (bld PL75 rfl) ?_
  have hs := hs.add (it := vl t_fold_Store (⟨[]⟩ : fold_Store) (.agg [.slice none 0 0].toArray)) fun ok hA => V_agg (show t_fold_Store.R ok _ _ _ from (show (tSlice t_fold_Object).R ok _ [] _ from R_nil)) rfl
  have hs := hs.add (it := vl t_api_Update (⟨101, 1, 0, x7.Effects⟩ : api_Update) (.agg [.int .i64 101, .int .i64 1, .int .i64 0, .slice a11 (x7.Effects).length c12].toArray)) fun ok hA => V_agg (show t_api_Update.R ok _ _ _ from ⟨[.int .i64 101], [.int .i64 1, .int .i64 0, .slice a11 (x7.Effects).length c12], rfl, rfl, ⟨[.int .i64 1], [.int .i64 0, .slice a11 (x7.Effects).length c12], rfl, rfl, ⟨[.int .i64 0], [.slice a11 (x7.Effects).length c12], rfl, rfl, (R_one (hA.get 1 rfl))⟩⟩⟩) rfl
  obtain ⟨x13, hxx13, hf⟩ := bindE hf
  refine WL.call (vs := [.agg ([.slice none 0 0] : List Value).toArray, .agg ([.int .i64 101, .int .i64 1, .int .i64 0, .slice a11 (x7.Effects).length c12] : List Value).toArray]) hs FN35 ⟨rfl, ⟨rfl, trivial⟩⟩ (fun ok hA => fold_Apply.calls (x1 := (⟨[]⟩ : fold_Store)) (x2 := (⟨101, 1, 0, x7.Effects⟩ : api_Update)) hxx13 (hA.get 1 rfl) (hA.get 0 rfl)) ?_
  rintro cs14 w hs
  have hl15 := hs.agglen (n := 1) 0 rfl rfl rfl
  obtain ⟨x16, hxx16, hf⟩ := bindE hf
  refine WL.call (vs := [.agg cs14.toArray]) hs FN30 ⟨rfl, trivial⟩ (fun ok hA => history_Visible.calls (x1 := x13) hxx16 (hA.get 0 rfl)) ?_
  rintro ⟨a17, n18, c19⟩ w hs
  refine WL.assign (v := .slice a17 n18 c19) rfl ?_
  refine WL.nil ?_
  refine hK6 _ _ ?_
  refine W.seqK fun K20 hK20 => ?_
  have Jk23 : ∀ (x22 : Bool) (ρ : Env) (w : World), ρ 0 = .bool x22 → St ok (bz w0) w [] [] → eslaw38_awake.j1 x22 = some r → K20 ρ w := by
    intro x22 ρ w h21_0 hs hf
    refine hK20 _ _ ?_
    unfold eslaw38_awake.j1 at hf
    refine W.ret ?_
    have hr := Option.some.inj hf; subst hr
    exact ⟨_, resOk_one rfl h21_0, (), rfl, (hs.mask []).pick []⟩
  refine W.region ?_
  refine WL.loadN (vs := [.slice (some ⟨g4, 0, none⟩) ([(⟨101, 1, [(⟨5, ([97] : List UInt8), ([98] : List UInt8), 0, []⟩ : api_Effect)], [], 1, 4⟩ : history_Operation), (⟨102, 3, [], [], 3, 0⟩ : history_Operation), (⟨101, 2, [], [], 5, 6⟩ : history_Operation)]).length 3]) hs 1 rfl TI24 rfl rfl rfl ?_
  have hs := hs.add (it := vl t_history_History (⟨[(⟨101, 1, [(⟨5, ([97] : List UInt8), ([98] : List UInt8), 0, []⟩ : api_Effect)], [], 1, 4⟩ : history_Operation), (⟨102, 3, [], [], 3, 0⟩ : history_Operation), (⟨101, 2, [], [], 5, 6⟩ : history_Operation)]⟩ : history_History) (.agg ([.slice (some ⟨g4, 0, none⟩) ([(⟨101, 1, [(⟨5, ([97] : List UInt8), ([98] : List UInt8), 0, []⟩ : api_Effect)], [], 1, 4⟩ : history_Operation), (⟨102, 3, [], [], 3, 0⟩ : history_Operation), (⟨101, 2, [], [], 5, 6⟩ : history_Operation)]).length 3]).toArray)) fun ok hA => V_agg ((R_one (hA.get 6 rfl))) rfl
  obtain ⟨x24, hxx24, hf⟩ := bindE hf
  refine WL.call (vs := [.agg ([.slice (some ⟨g4, 0, none⟩) ([(⟨101, 1, [(⟨5, ([97] : List UInt8), ([98] : List UInt8), 0, []⟩ : api_Effect)], [], 1, 4⟩ : history_Operation), (⟨102, 3, [], [], 3, 0⟩ : history_Operation), (⟨101, 2, [], [], 5, 6⟩ : history_Operation)]).length 3] : List Value).toArray]) hs FN11 ⟨rfl, trivial⟩ (fun ok hA => history_Validate.calls (x1 := (⟨[(⟨101, 1, [(⟨5, ([97] : List UInt8), ([98] : List UInt8), 0, []⟩ : api_Effect)], [], 1, 4⟩ : history_Operation), (⟨102, 3, [], [], 3, 0⟩ : history_Operation), (⟨101, 2, [], [], 5, 6⟩ : history_Operation)]⟩ : history_History)) hxx24 (hA.get 0 rfl)) ?_
  rintro _ w hs
  refine WL.bin (v := .bool (x24 == 0)) rfl rfl (ib_eql _ _ _) ?_
  refine WL.move (v := .bool (x24 == 0)) rfl ?_
  rcases iteE hf with ⟨hc25, hf⟩ | ⟨hc25, hf⟩
  {
  refine WL.loadN (vs := [.slice (some ⟨g4, 0, none⟩) ([(⟨101, 1, [(⟨5, ([97] : List UInt8), ([98] : List UInt8), 0, []⟩ : api_Effect)], [], 1, 4⟩ : history_Operation), (⟨102, 3, [], [], 3, 0⟩ : history_Operation), (⟨101, 2, [], [], 5, 6⟩ : history_Operation)]).length 3]) hs 1 rfl TI24 rfl rfl rfl ?_ (hg := (wanted_of rfl rfl (bool_tr rfl hc25)).trans rfl)
  have hs := hs.add (it := vl t_history_History (⟨[(⟨101, 1, [(⟨5, ([97] : List UInt8), ([98] : List UInt8), 0, []⟩ : api_Effect)], [], 1, 4⟩ : history_Operation), (⟨102, 3, [], [], 3, 0⟩ : history_Operation), (⟨101, 2, [], [], 5, 6⟩ : history_Operation)]⟩ : history_History) (.agg ([.slice (some ⟨g4, 0, none⟩) ([(⟨101, 1, [(⟨5, ([97] : List UInt8), ([98] : List UInt8), 0, []⟩ : api_Effect)], [], 1, 4⟩ : history_Operation), (⟨102, 3, [], [], 3, 0⟩ : history_Operation), (⟨101, 2, [], [], 5, 6⟩ : history_Operation)]).length 3]).toArray)) fun ok hA => V_agg ((R_one (hA.get 7 rfl))) rfl
  obtain ⟨x26, hxx26, hf⟩ := bindE hf
  refine WL.call (vs := [.agg ([.slice (some ⟨g4, 0, none⟩) ([(⟨101, 1, [(⟨5, ([97] : List UInt8), ([98] : List UInt8), 0, []⟩ : api_Effect)], [], 1, 4⟩ : history_Operation), (⟨102, 3, [], [], 3, 0⟩ : history_Operation), (⟨101, 2, [], [], 5, 6⟩ : history_Operation)]).length 3] : List Value).toArray, .int .i64 0, .int .i64 2]) hs FN15 ⟨rfl, ⟨rfl, ⟨rfl, trivial⟩⟩⟩ (fun ok hA => history_Precedes.calls (x1 := (⟨[(⟨101, 1, [(⟨5, ([97] : List UInt8), ([98] : List UInt8), 0, []⟩ : api_Effect)], [], 1, 4⟩ : history_Operation), (⟨102, 3, [], [], 3, 0⟩ : history_Operation), (⟨101, 2, [], [], 5, 6⟩ : history_Operation)]⟩ : history_History)) (x5 := 0) (x6 := 2) hxx26 (hA.get 0 rfl)) ?_ (hg := (wanted_of rfl rfl (bool_tr rfl hc25)).trans rfl)
  rintro _ w hs
  refine WL.pickT (v := .bool x26) (bool_tr rfl hc25) rfl ?_
  refine WL.move (v := .bool x26) rfl ?_
  rcases iteE hf with ⟨hc27, hf⟩ | ⟨hc27, hf⟩
  {
  refine WL.loadN (vs := [.slice (some ⟨g4, 0, none⟩) ([(⟨101, 1, [(⟨5, ([97] : List UInt8), ([98] : List UInt8), 0, []⟩ : api_Effect)], [], 1, 4⟩ : history_Operation), (⟨102, 3, [], [], 3, 0⟩ : history_Operation), (⟨101, 2, [], [], 5, 6⟩ : history_Operation)]).length 3]) hs 1 rfl TI24 rfl rfl rfl ?_ (hg := (wanted_of rfl rfl (bool_tr rfl hc27)).trans rfl)
  have hs := hs.add (it := vl t_history_History (⟨[(⟨101, 1, [(⟨5, ([97] : List UInt8), ([98] : List UInt8), 0, []⟩ : api_Effect)], [], 1, 4⟩ : history_Operation), (⟨102, 3, [], [], 3, 0⟩ : history_Operation), (⟨101, 2, [], [], 5, 6⟩ : history_Operation)]⟩ : history_History) (.agg ([.slice (some ⟨g4, 0, none⟩) ([(⟨101, 1, [(⟨5, ([97] : List UInt8), ([98] : List UInt8), 0, []⟩ : api_Effect)], [], 1, 4⟩ : history_Operation), (⟨102, 3, [], [], 3, 0⟩ : history_Operation), (⟨101, 2, [], [], 5, 6⟩ : history_Operation)]).length 3]).toArray)) fun ok hA => V_agg ((R_one (hA.get 8 rfl))) rfl
  obtain ⟨x28, hxx28, hf⟩ := bindE hf
  refine WL.call (vs := [.agg ([.slice (some ⟨g4, 0, none⟩) ([(⟨101, 1, [(⟨5, ([97] : List UInt8), ([98] : List UInt8), 0, []⟩ : api_Effect)], [], 1, 4⟩ : history_Operation), (⟨102, 3, [], [], 3, 0⟩ : history_Operation), (⟨101, 2, [], [], 5, 6⟩ : history_Operation)]).length 3] : List Value).toArray, .int .i64 0, .int .i64 1]) hs FN15 ⟨rfl, ⟨rfl, ⟨rfl, trivial⟩⟩⟩ (fun ok hA => history_Precedes.calls (x1 := (⟨[(⟨101, 1, [(⟨5, ([97] : List UInt8), ([98] : List UInt8), 0, []⟩ : api_Effect)], [], 1, 4⟩ : history_Operation), (⟨102, 3, [], [], 3, 0⟩ : history_Operation), (⟨101, 2, [], [], 5, 6⟩ : history_Operation)]⟩ : history_History)) (x5 := 0) (x6 := 1) hxx28 (hA.get 0 rfl)) ?_ (hg := (wanted_of rfl rfl (bool_tr rfl hc27)).trans rfl)
  rintro _ w hs
  refine WL.not rfl ?_ (hg := (wanted_of rfl rfl (bool_tr rfl hc27)).trans rfl)
  refine WL.pickT (v := .bool (!x28)) (bool_tr rfl hc27) rfl ?_
  refine WL.move (v := .bool (!x28)) rfl ?_
  rcases iteE hf with ⟨hc29, hf⟩ | ⟨hc29, hf⟩
  {
  refine WL.loadN (vs := [.slice (some ⟨g4, 0, none⟩) ([(⟨101, 1, [(⟨5, ([97] : List UInt8), ([98] : List UInt8), 0, []⟩ : api_Effect)], [], 1, 4⟩ : history_Operation), (⟨102, 3, [], [], 3, 0⟩ : history_Operation), (⟨101, 2, [], [], 5, 6⟩ : history_Operation)]).length 3]) hs 1 rfl TI24 rfl rfl rfl ?_ (hg := (wanted_of rfl rfl (bool_tr rfl hc29)).trans rfl)
  have hs := hs.add (it := vl t_history_History (⟨[(⟨101, 1, [(⟨5, ([97] : List UInt8), ([98] : List UInt8), 0, []⟩ : api_Effect)], [], 1, 4⟩ : history_Operation), (⟨102, 3, [], [], 3, 0⟩ : history_Operation), (⟨101, 2, [], [], 5, 6⟩ : history_Operation)]⟩ : history_History) (.agg ([.slice (some ⟨g4, 0, none⟩) ([(⟨101, 1, [(⟨5, ([97] : List UInt8), ([98] : List UInt8), 0, []⟩ : api_Effect)], [], 1, 4⟩ : history_Operation), (⟨102, 3, [], [], 3, 0⟩ : history_Operation), (⟨101, 2, [], [], 5, 6⟩ : history_Operation)]).length 3]).toArray)) fun ok hA => V_agg ((R_one (hA.get 9 rfl))) rfl
  obtain ⟨x30, hxx30, hf⟩ := bindE hf
  refine WL.call (vs := [.agg ([.slice (some ⟨g4, 0, none⟩) ([(⟨101, 1, [(⟨5, ([97] : List UInt8), ([98] : List UInt8), 0, []⟩ : api_Effect)], [], 1, 4⟩ : history_Operation), (⟨102, 3, [], [], 3, 0⟩ : history_Operation), (⟨101, 2, [], [], 5, 6⟩ : history_Operation)]).length 3] : List Value).toArray, .int .i64 1, .int .i64 2]) hs FN17 ⟨rfl, ⟨rfl, ⟨rfl, trivial⟩⟩⟩ (fun ok hA => history_Concurrent.calls (x1 := (⟨[(⟨101, 1, [(⟨5, ([97] : List UInt8), ([98] : List UInt8), 0, []⟩ : api_Effect)], [], 1, 4⟩ : history_Operation), (⟨102, 3, [], [], 3, 0⟩ : history_Operation), (⟨101, 2, [], [], 5, 6⟩ : history_Operation)]⟩ : history_History)) (x5 := 1) (x6 := 2) hxx30 (hA.get 0 rfl)) ?_ (hg := (wanted_of rfl rfl (bool_tr rfl hc29)).trans rfl)
  rintro _ w hs
  refine WL.pickT (v := .bool x30) (bool_tr rfl hc29) rfl ?_
  refine WL.move (v := .bool x30) rfl ?_
  rcases iteE hf with ⟨hc31, hf⟩ | ⟨hc31, hf⟩
  {
  refine WL.loadN (vs := [.slice (some ⟨g4, 0, none⟩) ([(⟨101, 1, [(⟨5, ([97] : List UInt8), ([98] : List UInt8), 0, []⟩ : api_Effect)], [], 1, 4⟩ : history_Operation), (⟨102, 3, [], [], 3, 0⟩ : history_Operation), (⟨101, 2, [], [], 5, 6⟩ : history_Operation)]).length 3]) hs 1 rfl TI24 rfl rfl rfl ?_ (hg := (wanted_of rfl rfl (bool_tr rfl hc31)).trans rfl)
  have hs := hs.add (it := vl t_history_History (⟨[(⟨101, 1, [(⟨5, ([97] : List UInt8), ([98] : List UInt8), 0, []⟩ : api_Effect)], [], 1, 4⟩ : history_Operation), (⟨102, 3, [], [], 3, 0⟩ : history_Operation), (⟨101, 2, [], [], 5, 6⟩ : history_Operation)]⟩ : history_History) (.agg ([.slice (some ⟨g4, 0, none⟩) ([(⟨101, 1, [(⟨5, ([97] : List UInt8), ([98] : List UInt8), 0, []⟩ : api_Effect)], [], 1, 4⟩ : history_Operation), (⟨102, 3, [], [], 3, 0⟩ : history_Operation), (⟨101, 2, [], [], 5, 6⟩ : history_Operation)]).length 3]).toArray)) fun ok hA => V_agg ((R_one (hA.get 10 rfl))) rfl
  obtain ⟨x32, hxx32, hf⟩ := bindE hf
  refine WL.call (vs := [.agg ([.slice (some ⟨g4, 0, none⟩) ([(⟨101, 1, [(⟨5, ([97] : List UInt8), ([98] : List UInt8), 0, []⟩ : api_Effect)], [], 1, 4⟩ : history_Operation), (⟨102, 3, [], [], 3, 0⟩ : history_Operation), (⟨101, 2, [], [], 5, 6⟩ : history_Operation)]).length 3] : List Value).toArray, .int .i64 0, .int .i64 2]) hs FN17 ⟨rfl, ⟨rfl, ⟨rfl, trivial⟩⟩⟩ (fun ok hA => history_Concurrent.calls (x1 := (⟨[(⟨101, 1, [(⟨5, ([97] : List UInt8), ([98] : List UInt8), 0, []⟩ : api_Effect)], [], 1, 4⟩ : history_Operation), (⟨102, 3, [], [], 3, 0⟩ : history_Operation), (⟨101, 2, [], [], 5, 6⟩ : history_Operation)]⟩ : history_History)) (x5 := 0) (x6 := 2) hxx32 (hA.get 0 rfl)) ?_ (hg := (wanted_of rfl rfl (bool_tr rfl hc31)).trans rfl)
  rintro _ w hs
  refine WL.not rfl ?_ (hg := (wanted_of rfl rfl (bool_tr rfl hc31)).trans rfl)
  refine WL.pickT (v := .bool (!x32)) (bool_tr rfl hc31) rfl ?_
  refine WL.move (v := .bool (!x32)) rfl ?_
  rcases iteE hf with ⟨hc33, hf⟩ | ⟨hc33, hf⟩
  {
  refine WL.loadN (vs := [.slice (some ⟨g4, 0, none⟩) ([(⟨101, 1, [(⟨5, ([97] : List UInt8), ([98] : List UInt8), 0, []⟩ : api_Effect)], [], 1, 4⟩ : history_Operation), (⟨102, 3, [], [], 3, 0⟩ : history_Operation), (⟨101, 2, [], [], 5, 6⟩ : history_Operation)]).length 3]) hs 1 rfl TI24 rfl rfl rfl ?_ (hg := (wanted_of rfl rfl (bool_tr rfl hc33)).trans rfl)
  have hs := hs.add (it := vl t_history_History (⟨[(⟨101, 1, [(⟨5, ([97] : List UInt8), ([98] : List UInt8), 0, []⟩ : api_Effect)], [], 1, 4⟩ : history_Operation), (⟨102, 3, [], [], 3, 0⟩ : history_Operation), (⟨101, 2, [], [], 5, 6⟩ : history_Operation)]⟩ : history_History) (.agg ([.slice (some ⟨g4, 0, none⟩) ([(⟨101, 1, [(⟨5, ([97] : List UInt8), ([98] : List UInt8), 0, []⟩ : api_Effect)], [], 1, 4⟩ : history_Operation), (⟨102, 3, [], [], 3, 0⟩ : history_Operation), (⟨101, 2, [], [], 5, 6⟩ : history_Operation)]).length 3]).toArray)) fun ok hA => V_agg ((R_one (hA.get 11 rfl))) rfl
  obtain ⟨x34, hxx34, hf⟩ := bindE hf
  refine WL.call (vs := [.agg ([.slice (some ⟨g4, 0, none⟩) ([(⟨101, 1, [(⟨5, ([97] : List UInt8), ([98] : List UInt8), 0, []⟩ : api_Effect)], [], 1, 4⟩ : history_Operation), (⟨102, 3, [], [], 3, 0⟩ : history_Operation), (⟨101, 2, [], [], 5, 6⟩ : history_Operation)]).length 3] : List Value).toArray]) hs FN22 ⟨rfl, trivial⟩ (fun ok hA => history_Width.calls (x1 := (⟨[(⟨101, 1, [(⟨5, ([97] : List UInt8), ([98] : List UInt8), 0, []⟩ : api_Effect)], [], 1, 4⟩ : history_Operation), (⟨102, 3, [], [], 3, 0⟩ : history_Operation), (⟨101, 2, [], [], 5, 6⟩ : history_Operation)]⟩ : history_History)) hxx34 (hA.get 0 rfl)) ?_ (hg := (wanted_of rfl rfl (bool_tr rfl hc33)).trans rfl)
  rintro _ w hs
  refine WL.bin (v := .bool (x34 == 2)) rfl rfl (ib_eql _ _ _) ?_ (hg := (wanted_of rfl rfl (bool_tr rfl hc33)).trans rfl)
  refine WL.pickT (v := .bool (x34 == 2)) (bool_tr rfl hc33) rfl ?_
  refine WL.move (v := .bool (x34 == 2)) rfl ?_
  rcases iteE hf with ⟨hc35, hf⟩ | ⟨hc35, hf⟩
  {
  refine WL.move (v := .slice a17 n18 c19) rfl ?_ (hg := (wanted_of rfl rfl (bool_tr rfl hc35)).trans rfl)
  refine WL.len (v := .slice a17 n18 c19) rfl (len_own hs 0 rfl UN31) ?_ (hg := (wanted_of rfl rfl (bool_tr rfl hc35)).trans rfl)
  refine WL.bin (v := .bool ((x16.length : Int) == 1)) rfl rfl (ib_eql _ _ _) ?_ (hg := (wanted_of rfl rfl (bool_tr rfl hc35)).trans rfl)
  refine WL.pickT (v := .bool ((x16.length : Int) == 1)) (bool_tr rfl hc35) rfl ?_
  refine WL.move (v := .bool ((x16.length : Int) == 1)) rfl ?_
  rcases iteE hf with ⟨hc36, hf⟩ | ⟨hc36, hf⟩
  {
  refine WL.move (v := .slice a17 n18 c19) rfl ?_ (hg := (wanted_of rfl rfl (bool_tr rfl hc36)).trans rfl)
  obtain ⟨x37, hxx37, hf⟩ := bindE hf
  refine WL.indexAddrO hs 0 rfl UN31 TI68 rfl rfl hxx37 (fun ad38 hatad38 => ?_) (hg := (wanted_of rfl rfl (bool_tr rfl hc36)).trans rfl)
  refine WL.fieldAddrO (OwnAt.f hatad38) rfl FA68_9 rfl (fun ad39 hatad39 => ?_) (hg := (wanted_of rfl rfl (bool_tr rfl hc36)).trans rfl)
  refine WL.loadOF (z := x37.Flag) F_history_Value_Flag hs 0 rfl TI4 (.inr rfl) hatad39 hxx37 rfl rfl (fun v40 hs => ?_) (hg := (wanted_of rfl rfl (bool_tr rfl hc36)).trans rfl)
  obtain rfl := hs.bool 0 rfl
  refine WL.pickT (v := .bool x37.Flag) (bool_tr rfl hc36) rfl ?_
  refine WL.move (v := .bool x37.Flag) rfl ?_
  rcases iteE hf with ⟨hc41, hf⟩ | ⟨hc41, hf⟩
  {
  refine WL.loadN (vs := [.slice (some ⟨g4, 0, none⟩) ([(⟨101, 1, [(⟨5, ([97] : List UInt8), ([98] : List UInt8), 0, []⟩ : api_Effect)], [], 1, 4⟩ : history_Operation), (⟨102, 3, [], [], 3, 0⟩ : history_Operation), (⟨101, 2, [], [], 5, 6⟩ : history_Operation)]).length 3]) hs 1 rfl TI24 rfl rfl rfl ?_ (hg := (wanted_of rfl rfl (bool_tr rfl hc41)).trans rfl)
  have hs := hs.add (it := vl t_history_History (⟨[(⟨101, 1, [(⟨5, ([97] : List UInt8), ([98] : List UInt8), 0, []⟩ : api_Effect)], [], 1, 4⟩ : history_Operation), (⟨102, 3, [], [], 3, 0⟩ : history_Operation), (⟨101, 2, [], [], 5, 6⟩ : history_Operation)]⟩ : history_History) (.agg ([.slice (some ⟨g4, 0, none⟩) ([(⟨101, 1, [(⟨5, ([97] : List UInt8), ([98] : List UInt8), 0, []⟩ : api_Effect)], [], 1, 4⟩ : history_Operation), (⟨102, 3, [], [], 3, 0⟩ : history_Operation), (⟨101, 2, [], [], 5, 6⟩ : history_Operation)]).length 3]).toArray)) fun ok hA => V_agg ((R_one (hA.get 13 rfl))) rfl
  obtain ⟨x42, hxx42, hf⟩ := bindE hf
  refine WL.call (vs := [.agg ([.slice (some ⟨g4, 0, none⟩) ([(⟨101, 1, [(⟨5, ([97] : List UInt8), ([98] : List UInt8), 0, []⟩ : api_Effect)], [], 1, 4⟩ : history_Operation), (⟨102, 3, [], [], 3, 0⟩ : history_Operation), (⟨101, 2, [], [], 5, 6⟩ : history_Operation)]).length 3] : List Value).toArray, .int .i64 101]) hs FN24 ⟨rfl, ⟨rfl, trivial⟩⟩ (fun ok hA => history_Of.calls (x1 := (⟨[(⟨101, 1, [(⟨5, ([97] : List UInt8), ([98] : List UInt8), 0, []⟩ : api_Effect)], [], 1, 4⟩ : history_Operation), (⟨102, 3, [], [], 3, 0⟩ : history_Operation), (⟨101, 2, [], [], 5, 6⟩ : history_Operation)]⟩ : history_History)) (x5 := 101) hxx42 (hA.get 0 rfl)) ?_ (hg := (wanted_of rfl rfl (bool_tr rfl hc41)).trans rfl)
  rintro ⟨a43, n44, c45⟩ w hs
  refine WL.len (v := .slice a43 n44 c45) rfl (len_own hs 0 rfl UN29) ?_ (hg := (wanted_of rfl rfl (bool_tr rfl hc41)).trans rfl)
  refine WL.bin (v := .bool ((x42.length : Int) == 2)) rfl rfl (ib_eql _ _ _) ?_ (hg := (wanted_of rfl rfl (bool_tr rfl hc41)).trans rfl)
  refine WL.pickT (v := .bool ((x42.length : Int) == 2)) (bool_tr rfl hc41) rfl ?_
  refine WL.move (v := .bool ((x42.length : Int) == 2)) rfl ?_
  rcases iteE hf with ⟨hc46, hf⟩ | ⟨hc46, hf⟩
  {
  refine WL.loadN (vs := [.slice (some ⟨g4, 0, none⟩) ([(⟨101, 1, [(⟨5, ([97] : List UInt8), ([98] : List UInt8), 0, []⟩ : api_Effect)], [], 1, 4⟩ : history_Operation), (⟨102, 3, [], [], 3, 0⟩ : history_Operation), (⟨101, 2, [], [], 5, 6⟩ : history_Operation)]).length 3]) hs 2 rfl TI24 rfl rfl rfl ?_ (hg := (wanted_of rfl rfl (bool_tr rfl hc46)).trans rfl)
  have hs := hs.add (it := vl t_history_History (⟨[(⟨101, 1, [(⟨5, ([97] : List UInt8), ([98] : List UInt8), 0, []⟩ : api_Effect)], [], 1, 4⟩ : history_Operation), (⟨102, 3, [], [], 3, 0⟩ : history_Operation), (⟨101, 2, [], [], 5, 6⟩ : history_Operation)]⟩ : history_History) (.agg ([.slice (some ⟨g4, 0, none⟩) ([(⟨101, 1, [(⟨5, ([97] : List UInt8), ([98] : List UInt8), 0, []⟩ : api_Effect)], [], 1, 4⟩ : history_Operation), (⟨102, 3, [], [], 3, 0⟩ : history_Operation), (⟨101, 2, [], [], 5, 6⟩ : history_Operation)]).length 3]).toArray)) fun ok hA => V_agg ((R_one (hA.get 14 rfl))) rfl
  obtain ⟨x47, hxx47, hf⟩ := bindE hf
  refine WL.call (vs := [.agg ([.slice (some ⟨g4, 0, none⟩) ([(⟨101, 1, [(⟨5, ([97] : List UInt8), ([98] : List UInt8), 0, []⟩ : api_Effect)], [], 1, 4⟩ : history_Operation), (⟨102, 3, [], [], 3, 0⟩ : history_Operation), (⟨101, 2, [], [], 5, 6⟩ : history_Operation)]).length 3] : List Value).toArray, .int .i64 4]) hs FN19 ⟨rfl, ⟨rfl, trivial⟩⟩ (fun ok hA => history_Before.calls (x1 := (⟨[(⟨101, 1, [(⟨5, ([97] : List UInt8), ([98] : List UInt8), 0, []⟩ : api_Effect)], [], 1, 4⟩ : history_Operation), (⟨102, 3, [], [], 3, 0⟩ : history_Operation), (⟨101, 2, [], [], 5, 6⟩ : history_Operation)]⟩ : history_History)) (x5 := 4) hxx47 (hA.get 0 rfl)) ?_ (hg := (wanted_of rfl rfl (bool_tr rfl hc46)).trans rfl)
  rintro ⟨a48, n49, c50⟩ w hs
  obtain rfl := hs.ownLen 0 rfl
  have hs := hs.freezeOwn 0 rfl
  have hs := hs.add (it := vl t_history_History (⟨x47.Operations⟩ : history_History) (.agg [.slice a48 (x47.Operations).length c50].toArray)) fun ok hA => V_agg ((R_one (hA.get 0 rfl))) rfl
  refine WL.fieldV (z := ((⟨x47.Operations⟩ : history_History)).Operations) (l := [.slice a48 (x47.Operations).length c50]) F_history_History_Operations hs 0 rfl rfl rfl FV24_0 TI22 (.inr rfl) rfl (fun v51 hs => ?_) (hg := (wanted_of rfl rfl (bool_tr rfl hc46)).trans rfl)
  obtain ⟨a52, c53, rfl⟩ := hs.slice 0 rfl
  refine WL.len (v := .slice a52 (((⟨x47.Operations⟩ : history_History)).Operations).length c53) rfl (len_slice UN22) ?_ (hg := (wanted_of rfl rfl (bool_tr rfl hc46)).trans rfl)
  refine WL.bin (v := .bool (((((⟨x47.Operations⟩ : history_History)).Operations).length : Int) == 2)) rfl rfl (ib_eql _ _ _) ?_ (hg := (wanted_of rfl rfl (bool_tr rfl hc46)).trans rfl)
  refine WL.pickT (v := .bool (((((⟨x47.Operations⟩ : history_History)).Operations).length : Int) == 2)) (bool_tr rfl hc46) rfl ?_
  refine WL.move (v := .bool (((((⟨x47.Operations⟩ : history_History)).Operations).length : Int) == 2)) rfl ?_
  rcases iteE hf with ⟨hc54, hf⟩ | ⟨hc54, hf⟩
  {
  refine WL.loadN (vs := [.slice (some ⟨g4, 0, none⟩) ([(⟨101, 1, [(⟨5, ([97] : List UInt8), ([98] : List UInt8), 0, []⟩ : api_Effect)], [], 1, 4⟩ : history_Operation), (⟨102, 3, [], [], 3, 0⟩ : history_Operation), (⟨101, 2, [], [], 5, 6⟩ : history_Operation)]).length 3]) hs 2 rfl TI24 rfl rfl rfl ?_ (hg := (wanted_of rfl rfl (bool_tr rfl hc54)).trans rfl)
  have hs := hs.add (it := vl t_history_History (⟨[(⟨101, 1, [(⟨5, ([97] : List UInt8), ([98] : List UInt8), 0, []⟩ : api_Effect)], [], 1, 4⟩ : history_Operation), (⟨102, 3, [], [], 3, 0⟩ : history_Operation), (⟨101, 2, [], [], 5, 6⟩ : history_Operation)]⟩ : history_History) (.agg ([.slice (some ⟨g4, 0, none⟩) ([(⟨101, 1, [(⟨5, ([97] : List UInt8), ([98] : List UInt8), 0, []⟩ : api_Effect)], [], 1, 4⟩ : history_Operation), (⟨102, 3, [], [], 3, 0⟩ : history_Operation), (⟨101, 2, [], [], 5, 6⟩ : history_Operation)]).length 3]).toArray)) fun ok hA => V_agg ((R_one (hA.get 18 rfl))) rfl
  obtain ⟨x55, hxx55, hf⟩ := bindE hf
  refine WL.call (vs := [.agg ([.slice (some ⟨g4, 0, none⟩) ([(⟨101, 1, [(⟨5, ([97] : List UInt8), ([98] : List UInt8), 0, []⟩ : api_Effect)], [], 1, 4⟩ : history_Operation), (⟨102, 3, [], [], 3, 0⟩ : history_Operation), (⟨101, 2, [], [], 5, 6⟩ : history_Operation)]).length 3] : List Value).toArray, .int .i64 4]) hs FN19 ⟨rfl, ⟨rfl, trivial⟩⟩ (fun ok hA => history_Before.calls (x1 := (⟨[(⟨101, 1, [(⟨5, ([97] : List UInt8), ([98] : List UInt8), 0, []⟩ : api_Effect)], [], 1, 4⟩ : history_Operation), (⟨102, 3, [], [], 3, 0⟩ : history_Operation), (⟨101, 2, [], [], 5, 6⟩ : history_Operation)]⟩ : history_History)) (x5 := 4) hxx55 (hA.get 0 rfl)) ?_ (hg := (wanted_of rfl rfl (bool_tr rfl hc54)).trans rfl)
  rintro ⟨a56, n57, c58⟩ w hs
  obtain rfl := hs.ownLen 0 rfl
  have hs := hs.freezeOwn 0 rfl
  have hs := hs.add (it := vl t_history_History (⟨x55.Operations⟩ : history_History) (.agg [.slice a56 (x55.Operations).length c58].toArray)) fun ok hA => V_agg ((R_one (hA.get 0 rfl))) rfl
  refine WL.fieldV (z := ((⟨x55.Operations⟩ : history_History)).Operations) (l := [.slice a56 (x55.Operations).length c58]) F_history_History_Operations hs 0 rfl rfl rfl FV24_0 TI22 (.inr rfl) rfl (fun v59 hs => ?_) (hg := (wanted_of rfl rfl (bool_tr rfl hc54)).trans rfl)
  obtain ⟨a60, c61, rfl⟩ := hs.slice 0 rfl
  obtain ⟨x62, hxx62, hf⟩ := bindE hf
  refine WL.indexAddr hs 0 rfl UN22 TI35 rfl rfl hxx62 (fun ad63 hs => ?_) (hg := (wanted_of rfl rfl (bool_tr rfl hc54)).trans rfl)
  refine WL.fieldAddrP (z := x62.Return) F_history_Operation_Return hs 0 rfl rfl FA35_5 rfl (fun ad64 hs => ?_) (hg := (wanted_of rfl rfl (bool_tr rfl hc54)).trans rfl)
  refine WL.loadP hs 0 rfl TI3 (.inr rfl) rfl (fun v65 hs => ?_) (hg := (wanted_of rfl rfl (bool_tr rfl hc54)).trans rfl)
  obtain rfl := hs.int 0 rfl
  refine WL.bin (v := .bool (x62.Return == 0)) rfl rfl (ib_eql _ _ _) ?_ (hg := (wanted_of rfl rfl (bool_tr rfl hc54)).trans rfl)
  refine WL.pickT (v := .bool (x62.Return == 0)) (bool_tr rfl hc54) rfl ?_
  refine WL.assign (v := .bool (x62.Return == 0)) rfl ?_
  refine WL.nil ?_
  exact Jk23 (x62.Return == 0) _ _ rfl ((hs.mask []).pick []) hf }
  {
  refine WL.pass ((wanted_of rfl rfl (bool_tr rfl hc54)).trans rfl) rfl ?_
  refine WL.pass ((wanted_of rfl rfl (bool_tr rfl hc54)).trans rfl) rfl ?_
  refine WL.pass ((wanted_of rfl rfl (bool_tr rfl hc54)).trans rfl) rfl ?_
  refine WL.pass ((wanted_of rfl rfl (bool_tr rfl hc54)).trans rfl) rfl ?_
  refine WL.pass ((wanted_of rfl rfl (bool_tr rfl hc54)).trans rfl) rfl ?_
  refine WL.pass ((wanted_of rfl rfl (bool_tr rfl hc54)).trans rfl) rfl ?_
  refine WL.pass ((wanted_of rfl rfl (bool_tr rfl hc54)).trans rfl) rfl ?_
  refine WL.pickF (v := .bool false) (bool_tr rfl hc54) rfl ?_
  refine WL.assign (v := .bool false) rfl ?_
  refine WL.nil ?_
  exact Jk23 false _ _ rfl ((hs.mask []).pick []) hf } }
  {
  refine WL.pass ((wanted_of rfl rfl (bool_tr rfl hc46)).trans rfl) rfl ?_
  refine WL.pass ((wanted_of rfl rfl (bool_tr rfl hc46)).trans rfl) rfl ?_
  refine WL.pass ((wanted_of rfl rfl (bool_tr rfl hc46)).trans rfl) rfl ?_
  refine WL.pass ((wanted_of rfl rfl (bool_tr rfl hc46)).trans rfl) rfl ?_
  refine WL.pass ((wanted_of rfl rfl (bool_tr rfl hc46)).trans rfl) rfl ?_
  refine WL.pickF (v := .bool false) (bool_tr rfl hc46) rfl ?_
  refine WL.move (v := .bool false) rfl ?_
  refine WL.pass ((wanted_of rfl rfl rfl).trans rfl) rfl ?_
  refine WL.pass ((wanted_of rfl rfl rfl).trans rfl) rfl ?_
  refine WL.pass ((wanted_of rfl rfl rfl).trans rfl) rfl ?_
  refine WL.pass ((wanted_of rfl rfl rfl).trans rfl) rfl ?_
  refine WL.pass ((wanted_of rfl rfl rfl).trans rfl) rfl ?_
  refine WL.pass ((wanted_of rfl rfl rfl).trans rfl) rfl ?_
  refine WL.pass ((wanted_of rfl rfl rfl).trans rfl) rfl ?_
  refine WL.pickF (v := .bool false) rfl rfl ?_
  refine WL.assign (v := .bool false) rfl ?_
  refine WL.nil ?_
  exact Jk23 false _ _ rfl ((hs.mask []).pick []) hf } }
  {
  refine WL.pass ((wanted_of rfl rfl (bool_tr rfl hc41)).trans rfl) rfl ?_
  refine WL.pass ((wanted_of rfl rfl (bool_tr rfl hc41)).trans rfl) rfl ?_
  refine WL.pass ((wanted_of rfl rfl (bool_tr rfl hc41)).trans rfl) rfl ?_
  refine WL.pass ((wanted_of rfl rfl (bool_tr rfl hc41)).trans rfl) rfl ?_
  refine WL.pickF (v := .bool false) (bool_tr rfl hc41) rfl ?_
  refine WL.move (v := .bool false) rfl ?_
  refine WL.pass ((wanted_of rfl rfl rfl).trans rfl) rfl ?_
  refine WL.pass ((wanted_of rfl rfl rfl).trans rfl) rfl ?_
  refine WL.pass ((wanted_of rfl rfl rfl).trans rfl) rfl ?_
  refine WL.pass ((wanted_of rfl rfl rfl).trans rfl) rfl ?_
  refine WL.pass ((wanted_of rfl rfl rfl).trans rfl) rfl ?_
  refine WL.pickF (v := .bool false) rfl rfl ?_
  refine WL.move (v := .bool false) rfl ?_
  refine WL.pass ((wanted_of rfl rfl rfl).trans rfl) rfl ?_
  refine WL.pass ((wanted_of rfl rfl rfl).trans rfl) rfl ?_
  refine WL.pass ((wanted_of rfl rfl rfl).trans rfl) rfl ?_
  refine WL.pass ((wanted_of rfl rfl rfl).trans rfl) rfl ?_
  refine WL.pass ((wanted_of rfl rfl rfl).trans rfl) rfl ?_
  refine WL.pass ((wanted_of rfl rfl rfl).trans rfl) rfl ?_
  refine WL.pass ((wanted_of rfl rfl rfl).trans rfl) rfl ?_
  refine WL.pickF (v := .bool false) rfl rfl ?_
  refine WL.assign (v := .bool false) rfl ?_
  refine WL.nil ?_
  exact Jk23 false _ _ rfl ((hs.mask []).pick []) hf } }
  {
  refine WL.pass ((wanted_of rfl rfl (bool_tr rfl hc36)).trans rfl) rfl ?_
  refine WL.pass ((wanted_of rfl rfl (bool_tr rfl hc36)).trans rfl) rfl ?_
  refine WL.pass ((wanted_of rfl rfl (bool_tr rfl hc36)).trans rfl) rfl ?_
  refine WL.pass ((wanted_of rfl rfl (bool_tr rfl hc36)).trans rfl) rfl ?_
  refine WL.pickF (v := .bool false) (bool_tr rfl hc36) rfl ?_
  refine WL.move (v := .bool false) rfl ?_
  refine WL.pass ((wanted_of rfl rfl rfl).trans rfl) rfl ?_
  refine WL.pass ((wanted_of rfl rfl rfl).trans rfl) rfl ?_
  refine WL.pass ((wanted_of rfl rfl rfl).trans rfl) rfl ?_
  refine WL.pass ((wanted_of rfl rfl rfl).trans rfl) rfl ?_
  refine WL.pickF (v := .bool false) rfl rfl ?_
  refine WL.move (v := .bool false) rfl ?_
  refine WL.pass ((wanted_of rfl rfl rfl).trans rfl) rfl ?_
  refine WL.pass ((wanted_of rfl rfl rfl).trans rfl) rfl ?_
  refine WL.pass ((wanted_of rfl rfl rfl).trans rfl) rfl ?_
  refine WL.pass ((wanted_of rfl rfl rfl).trans rfl) rfl ?_
  refine WL.pass ((wanted_of rfl rfl rfl).trans rfl) rfl ?_
  refine WL.pickF (v := .bool false) rfl rfl ?_
  refine WL.move (v := .bool false) rfl ?_
  refine WL.pass ((wanted_of rfl rfl rfl).trans rfl) rfl ?_
  refine WL.pass ((wanted_of rfl rfl rfl).trans rfl) rfl ?_
  refine WL.pass ((wanted_of rfl rfl rfl).trans rfl) rfl ?_
  refine WL.pass ((wanted_of rfl rfl rfl).trans rfl) rfl ?_
  refine WL.pass ((wanted_of rfl rfl rfl).trans rfl) rfl ?_
  refine WL.pass ((wanted_of rfl rfl rfl).trans rfl) rfl ?_
  refine WL.pass ((wanted_of rfl rfl rfl).trans rfl) rfl ?_
  refine WL.pickF (v := .bool false) rfl rfl ?_
  refine WL.assign (v := .bool false) rfl ?_
  refine WL.nil ?_
  exact Jk23 false _ _ rfl ((hs.mask []).pick []) hf } }
  {
  refine WL.pass ((wanted_of rfl rfl (bool_tr rfl hc35)).trans rfl) rfl ?_
  refine WL.pass ((wanted_of rfl rfl (bool_tr rfl hc35)).trans rfl) rfl ?_
  refine WL.pass ((wanted_of rfl rfl (bool_tr rfl hc35)).trans rfl) rfl ?_
  refine WL.pickF (v := .bool false) (bool_tr rfl hc35) rfl ?_
  refine WL.move (v := .bool false) rfl ?_
  refine WL.pass ((wanted_of rfl rfl rfl).trans rfl) rfl ?_
  refine WL.pass ((wanted_of rfl rfl rfl).trans rfl) rfl ?_
  refine WL.pass ((wanted_of rfl rfl rfl).trans rfl) rfl ?_
  refine WL.pass ((wanted_of rfl rfl rfl).trans rfl) rfl ?_
  refine WL.pickF (v := .bool false) rfl rfl ?_
  refine WL.move (v := .bool false) rfl ?_
  refine WL.pass ((wanted_of rfl rfl rfl).trans rfl) rfl ?_
  refine WL.pass ((wanted_of rfl rfl rfl).trans rfl) rfl ?_
  refine WL.pass ((wanted_of rfl rfl rfl).trans rfl) rfl ?_
  refine WL.pass ((wanted_of rfl rfl rfl).trans rfl) rfl ?_
  refine WL.pickF (v := .bool false) rfl rfl ?_
  refine WL.move (v := .bool false) rfl ?_
  refine WL.pass ((wanted_of rfl rfl rfl).trans rfl) rfl ?_
  refine WL.pass ((wanted_of rfl rfl rfl).trans rfl) rfl ?_
  refine WL.pass ((wanted_of rfl rfl rfl).trans rfl) rfl ?_
  refine WL.pass ((wanted_of rfl rfl rfl).trans rfl) rfl ?_
  refine WL.pass ((wanted_of rfl rfl rfl).trans rfl) rfl ?_
  refine WL.pickF (v := .bool false) rfl rfl ?_
  refine WL.move (v := .bool false) rfl ?_
  refine WL.pass ((wanted_of rfl rfl rfl).trans rfl) rfl ?_
  refine WL.pass ((wanted_of rfl rfl rfl).trans rfl) rfl ?_
  refine WL.pass ((wanted_of rfl rfl rfl).trans rfl) rfl ?_
  refine WL.pass ((wanted_of rfl rfl rfl).trans rfl) rfl ?_
  refine WL.pass ((wanted_of rfl rfl rfl).trans rfl) rfl ?_
  refine WL.pass ((wanted_of rfl rfl rfl).trans rfl) rfl ?_
  refine WL.pass ((wanted_of rfl rfl rfl).trans rfl) rfl ?_
  refine WL.pickF (v := .bool false) rfl rfl ?_
  refine WL.assign (v := .bool false) rfl ?_
  refine WL.nil ?_
  exact Jk23 false _ _ rfl ((hs.mask []).pick []) hf } }
  {
  refine WL.pass ((wanted_of rfl rfl (bool_tr rfl hc33)).trans rfl) rfl ?_
  refine WL.pass ((wanted_of rfl rfl (bool_tr rfl hc33)).trans rfl) rfl ?_
  refine WL.pass ((wanted_of rfl rfl (bool_tr rfl hc33)).trans rfl) rfl ?_
  refine WL.pickF (v := .bool false) (bool_tr rfl hc33) rfl ?_
  refine WL.move (v := .bool false) rfl ?_
  refine WL.pass ((wanted_of rfl rfl rfl).trans rfl) rfl ?_
  refine WL.pass ((wanted_of rfl rfl rfl).trans rfl) rfl ?_
  refine WL.pass ((wanted_of rfl rfl rfl).trans rfl) rfl ?_
  refine WL.pickF (v := .bool false) rfl rfl ?_
  refine WL.move (v := .bool false) rfl ?_
  refine WL.pass ((wanted_of rfl rfl rfl).trans rfl) rfl ?_
  refine WL.pass ((wanted_of rfl rfl rfl).trans rfl) rfl ?_
  refine WL.pass ((wanted_of rfl rfl rfl).trans rfl) rfl ?_
  refine WL.pass ((wanted_of rfl rfl rfl).trans rfl) rfl ?_
  refine WL.pickF (v := .bool false) rfl rfl ?_
  refine WL.move (v := .bool false) rfl ?_
  refine WL.pass ((wanted_of rfl rfl rfl).trans rfl) rfl ?_
  refine WL.pass ((wanted_of rfl rfl rfl).trans rfl) rfl ?_
  refine WL.pass ((wanted_of rfl rfl rfl).trans rfl) rfl ?_
  refine WL.pass ((wanted_of rfl rfl rfl).trans rfl) rfl ?_
  refine WL.pickF (v := .bool false) rfl rfl ?_
  refine WL.move (v := .bool false) rfl ?_
  refine WL.pass ((wanted_of rfl rfl rfl).trans rfl) rfl ?_
  refine WL.pass ((wanted_of rfl rfl rfl).trans rfl) rfl ?_
  refine WL.pass ((wanted_of rfl rfl rfl).trans rfl) rfl ?_
  refine WL.pass ((wanted_of rfl rfl rfl).trans rfl) rfl ?_
  refine WL.pass ((wanted_of rfl rfl rfl).trans rfl) rfl ?_
  refine WL.pickF (v := .bool false) rfl rfl ?_
  refine WL.move (v := .bool false) rfl ?_
  refine WL.pass ((wanted_of rfl rfl rfl).trans rfl) rfl ?_
  refine WL.pass ((wanted_of rfl rfl rfl).trans rfl) rfl ?_
  refine WL.pass ((wanted_of rfl rfl rfl).trans rfl) rfl ?_
  refine WL.pass ((wanted_of rfl rfl rfl).trans rfl) rfl ?_
  refine WL.pass ((wanted_of rfl rfl rfl).trans rfl) rfl ?_
  refine WL.pass ((wanted_of rfl rfl rfl).trans rfl) rfl ?_
  refine WL.pass ((wanted_of rfl rfl rfl).trans rfl) rfl ?_
  refine WL.pickF (v := .bool false) rfl rfl ?_
  refine WL.assign (v := .bool false) rfl ?_
  refine WL.nil ?_
  exact Jk23 false _ _ rfl ((hs.mask []).pick []) hf } }
  {
  refine WL.pass ((wanted_of rfl rfl (bool_tr rfl hc31)).trans rfl) rfl ?_
  refine WL.pass ((wanted_of rfl rfl (bool_tr rfl hc31)).trans rfl) rfl ?_
  refine WL.pass ((wanted_of rfl rfl (bool_tr rfl hc31)).trans rfl) rfl ?_
  refine WL.pickF (v := .bool false) (bool_tr rfl hc31) rfl ?_
  refine WL.move (v := .bool false) rfl ?_
  refine WL.pass ((wanted_of rfl rfl rfl).trans rfl) rfl ?_
  refine WL.pass ((wanted_of rfl rfl rfl).trans rfl) rfl ?_
  refine WL.pass ((wanted_of rfl rfl rfl).trans rfl) rfl ?_
  refine WL.pickF (v := .bool false) rfl rfl ?_
  refine WL.move (v := .bool false) rfl ?_
  refine WL.pass ((wanted_of rfl rfl rfl).trans rfl) rfl ?_
  refine WL.pass ((wanted_of rfl rfl rfl).trans rfl) rfl ?_
  refine WL.pass ((wanted_of rfl rfl rfl).trans rfl) rfl ?_
  refine WL.pickF (v := .bool false) rfl rfl ?_
  refine WL.move (v := .bool false) rfl ?_
  refine WL.pass ((wanted_of rfl rfl rfl).trans rfl) rfl ?_
  refine WL.pass ((wanted_of rfl rfl rfl).trans rfl) rfl ?_
  refine WL.pass ((wanted_of rfl rfl rfl).trans rfl) rfl ?_
  refine WL.pass ((wanted_of rfl rfl rfl).trans rfl) rfl ?_
  refine WL.pickF (v := .bool false) rfl rfl ?_
  refine WL.move (v := .bool false) rfl ?_
  refine WL.pass ((wanted_of rfl rfl rfl).trans rfl) rfl ?_
  refine WL.pass ((wanted_of rfl rfl rfl).trans rfl) rfl ?_
  refine WL.pass ((wanted_of rfl rfl rfl).trans rfl) rfl ?_
  refine WL.pass ((wanted_of rfl rfl rfl).trans rfl) rfl ?_
  refine WL.pickF (v := .bool false) rfl rfl ?_
  refine WL.move (v := .bool false) rfl ?_
  refine WL.pass ((wanted_of rfl rfl rfl).trans rfl) rfl ?_
  refine WL.pass ((wanted_of rfl rfl rfl).trans rfl) rfl ?_
  refine WL.pass ((wanted_of rfl rfl rfl).trans rfl) rfl ?_
  refine WL.pass ((wanted_of rfl rfl rfl).trans rfl) rfl ?_
  refine WL.pass ((wanted_of rfl rfl rfl).trans rfl) rfl ?_
  refine WL.pickF (v := .bool false) rfl rfl ?_
  refine WL.move (v := .bool false) rfl ?_
  refine WL.pass ((wanted_of rfl rfl rfl).trans rfl) rfl ?_
  refine WL.pass ((wanted_of rfl rfl rfl).trans rfl) rfl ?_
  refine WL.pass ((wanted_of rfl rfl rfl).trans rfl) rfl ?_
  refine WL.pass ((wanted_of rfl rfl rfl).trans rfl) rfl ?_
  refine WL.pass ((wanted_of rfl rfl rfl).trans rfl) rfl ?_
  refine WL.pass ((wanted_of rfl rfl rfl).trans rfl) rfl ?_
  refine WL.pass ((wanted_of rfl rfl rfl).trans rfl) rfl ?_
  refine WL.pickF (v := .bool false) rfl rfl ?_
  refine WL.assign (v := .bool false) rfl ?_
  refine WL.nil ?_
  exact Jk23 false _ _ rfl ((hs.mask []).pick []) hf } }
  {
  refine WL.pass ((wanted_of rfl rfl (bool_tr rfl hc29)).trans rfl) rfl ?_
  refine WL.pass ((wanted_of rfl rfl (bool_tr rfl hc29)).trans rfl) rfl ?_
  refine WL.pickF (v := .bool false) (bool_tr rfl hc29) rfl ?_
  refine WL.move (v := .bool false) rfl ?_
  refine WL.pass ((wanted_of rfl rfl rfl).trans rfl) rfl ?_
  refine WL.pass ((wanted_of rfl rfl rfl).trans rfl) rfl ?_
  refine WL.pass ((wanted_of rfl rfl rfl).trans rfl) rfl ?_
  refine WL.pickF (v := .bool false) rfl rfl ?_
  refine WL.move (v := .bool false) rfl ?_
  refine WL.pass ((wanted_of rfl rfl rfl).trans rfl) rfl ?_
  refine WL.pass ((wanted_of rfl rfl rfl).trans rfl) rfl ?_
  refine WL.pass ((wanted_of rfl rfl rfl).trans rfl) rfl ?_
  refine WL.pickF (v := .bool false) rfl rfl ?_
  refine WL.move (v := .bool false) rfl ?_
  refine WL.pass ((wanted_of rfl rfl rfl).trans rfl) rfl ?_
  refine WL.pass ((wanted_of rfl rfl rfl).trans rfl) rfl ?_
  refine WL.pass ((wanted_of rfl rfl rfl).trans rfl) rfl ?_
  refine WL.pickF (v := .bool false) rfl rfl ?_
  refine WL.move (v := .bool false) rfl ?_
  refine WL.pass ((wanted_of rfl rfl rfl).trans rfl) rfl ?_
  refine WL.pass ((wanted_of rfl rfl rfl).trans rfl) rfl ?_
  refine WL.pass ((wanted_of rfl rfl rfl).trans rfl) rfl ?_
  refine WL.pass ((wanted_of rfl rfl rfl).trans rfl) rfl ?_
  refine WL.pickF (v := .bool false) rfl rfl ?_
  refine WL.move (v := .bool false) rfl ?_
  refine WL.pass ((wanted_of rfl rfl rfl).trans rfl) rfl ?_
  refine WL.pass ((wanted_of rfl rfl rfl).trans rfl) rfl ?_
  refine WL.pass ((wanted_of rfl rfl rfl).trans rfl) rfl ?_
  refine WL.pass ((wanted_of rfl rfl rfl).trans rfl) rfl ?_
  refine WL.pickF (v := .bool false) rfl rfl ?_
  refine WL.move (v := .bool false) rfl ?_
  refine WL.pass ((wanted_of rfl rfl rfl).trans rfl) rfl ?_
  refine WL.pass ((wanted_of rfl rfl rfl).trans rfl) rfl ?_
  refine WL.pass ((wanted_of rfl rfl rfl).trans rfl) rfl ?_
  refine WL.pass ((wanted_of rfl rfl rfl).trans rfl) rfl ?_
  refine WL.pass ((wanted_of rfl rfl rfl).trans rfl) rfl ?_
  refine WL.pickF (v := .bool false) rfl rfl ?_
  refine WL.move (v := .bool false) rfl ?_
  refine WL.pass ((wanted_of rfl rfl rfl).trans rfl) rfl ?_
  refine WL.pass ((wanted_of rfl rfl rfl).trans rfl) rfl ?_
  refine WL.pass ((wanted_of rfl rfl rfl).trans rfl) rfl ?_
  refine WL.pass ((wanted_of rfl rfl rfl).trans rfl) rfl ?_
  refine WL.pass ((wanted_of rfl rfl rfl).trans rfl) rfl ?_
  refine WL.pass ((wanted_of rfl rfl rfl).trans rfl) rfl ?_
  refine WL.pass ((wanted_of rfl rfl rfl).trans rfl) rfl ?_
  refine WL.pickF (v := .bool false) rfl rfl ?_
  refine WL.assign (v := .bool false) rfl ?_
  refine WL.nil ?_
  exact Jk23 false _ _ rfl ((hs.mask []).pick []) hf } }
  {
  refine WL.pass ((wanted_of rfl rfl (bool_tr rfl hc27)).trans rfl) rfl ?_
  refine WL.pass ((wanted_of rfl rfl (bool_tr rfl hc27)).trans rfl) rfl ?_
  refine WL.pass ((wanted_of rfl rfl (bool_tr rfl hc27)).trans rfl) rfl ?_
  refine WL.pickF (v := .bool false) (bool_tr rfl hc27) rfl ?_
  refine WL.move (v := .bool false) rfl ?_
  refine WL.pass ((wanted_of rfl rfl rfl).trans rfl) rfl ?_
  refine WL.pass ((wanted_of rfl rfl rfl).trans rfl) rfl ?_
  refine WL.pickF (v := .bool false) rfl rfl ?_
  refine WL.move (v := .bool false) rfl ?_
  refine WL.pass ((wanted_of rfl rfl rfl).trans rfl) rfl ?_
  refine WL.pass ((wanted_of rfl rfl rfl).trans rfl) rfl ?_
  refine WL.pass ((wanted_of rfl rfl rfl).trans rfl) rfl ?_
  refine WL.pickF (v := .bool false) rfl rfl ?_
  refine WL.move (v := .bool false) rfl ?_
  refine WL.pass ((wanted_of rfl rfl rfl).trans rfl) rfl ?_
  refine WL.pass ((wanted_of rfl rfl rfl).trans rfl) rfl ?_
  refine WL.pass ((wanted_of rfl rfl rfl).trans rfl) rfl ?_
  refine WL.pickF (v := .bool false) rfl rfl ?_
  refine WL.move (v := .bool false) rfl ?_
  refine WL.pass ((wanted_of rfl rfl rfl).trans rfl) rfl ?_
  refine WL.pass ((wanted_of rfl rfl rfl).trans rfl) rfl ?_
  refine WL.pass ((wanted_of rfl rfl rfl).trans rfl) rfl ?_
  refine WL.pickF (v := .bool false) rfl rfl ?_
  refine WL.move (v := .bool false) rfl ?_
  refine WL.pass ((wanted_of rfl rfl rfl).trans rfl) rfl ?_
  refine WL.pass ((wanted_of rfl rfl rfl).trans rfl) rfl ?_
  refine WL.pass ((wanted_of rfl rfl rfl).trans rfl) rfl ?_
  refine WL.pass ((wanted_of rfl rfl rfl).trans rfl) rfl ?_
  refine WL.pickF (v := .bool false) rfl rfl ?_
  refine WL.move (v := .bool false) rfl ?_
  refine WL.pass ((wanted_of rfl rfl rfl).trans rfl) rfl ?_
  refine WL.pass ((wanted_of rfl rfl rfl).trans rfl) rfl ?_
  refine WL.pass ((wanted_of rfl rfl rfl).trans rfl) rfl ?_
  refine WL.pass ((wanted_of rfl rfl rfl).trans rfl) rfl ?_
  refine WL.pickF (v := .bool false) rfl rfl ?_
  refine WL.move (v := .bool false) rfl ?_
  refine WL.pass ((wanted_of rfl rfl rfl).trans rfl) rfl ?_
  refine WL.pass ((wanted_of rfl rfl rfl).trans rfl) rfl ?_
  refine WL.pass ((wanted_of rfl rfl rfl).trans rfl) rfl ?_
  refine WL.pass ((wanted_of rfl rfl rfl).trans rfl) rfl ?_
  refine WL.pass ((wanted_of rfl rfl rfl).trans rfl) rfl ?_
  refine WL.pickF (v := .bool false) rfl rfl ?_
  refine WL.move (v := .bool false) rfl ?_
  refine WL.pass ((wanted_of rfl rfl rfl).trans rfl) rfl ?_
  refine WL.pass ((wanted_of rfl rfl rfl).trans rfl) rfl ?_
  refine WL.pass ((wanted_of rfl rfl rfl).trans rfl) rfl ?_
  refine WL.pass ((wanted_of rfl rfl rfl).trans rfl) rfl ?_
  refine WL.pass ((wanted_of rfl rfl rfl).trans rfl) rfl ?_
  refine WL.pass ((wanted_of rfl rfl rfl).trans rfl) rfl ?_
  refine WL.pass ((wanted_of rfl rfl rfl).trans rfl) rfl ?_
  refine WL.pickF (v := .bool false) rfl rfl ?_
  refine WL.assign (v := .bool false) rfl ?_
  refine WL.nil ?_
  exact Jk23 false _ _ rfl ((hs.mask []).pick []) hf } }
  {
  refine WL.pass ((wanted_of rfl rfl (bool_tr rfl hc25)).trans rfl) rfl ?_
  refine WL.pass ((wanted_of rfl rfl (bool_tr rfl hc25)).trans rfl) rfl ?_
  refine WL.pickF (v := .bool false) (bool_tr rfl hc25) rfl ?_
  refine WL.move (v := .bool false) rfl ?_
  refine WL.pass ((wanted_of rfl rfl rfl).trans rfl) rfl ?_
  refine WL.pass ((wanted_of rfl rfl rfl).trans rfl) rfl ?_
  refine WL.pass ((wanted_of rfl rfl rfl).trans rfl) rfl ?_
  refine WL.pickF (v := .bool false) rfl rfl ?_
  refine WL.move (v := .bool false) rfl ?_
  refine WL.pass ((wanted_of rfl rfl rfl).trans rfl) rfl ?_
  refine WL.pass ((wanted_of rfl rfl rfl).trans rfl) rfl ?_
  refine WL.pickF (v := .bool false) rfl rfl ?_
  refine WL.move (v := .bool false) rfl ?_
  refine WL.pass ((wanted_of rfl rfl rfl).trans rfl) rfl ?_
  refine WL.pass ((wanted_of rfl rfl rfl).trans rfl) rfl ?_
  refine WL.pass ((wanted_of rfl rfl rfl).trans rfl) rfl ?_
  refine WL.pickF (v := .bool false) rfl rfl ?_
  refine WL.move (v := .bool false) rfl ?_
  refine WL.pass ((wanted_of rfl rfl rfl).trans rfl) rfl ?_
  refine WL.pass ((wanted_of rfl rfl rfl).trans rfl) rfl ?_
  refine WL.pass ((wanted_of rfl rfl rfl).trans rfl) rfl ?_
  refine WL.pickF (v := .bool false) rfl rfl ?_
  refine WL.move (v := .bool false) rfl ?_
  refine WL.pass ((wanted_of rfl rfl rfl).trans rfl) rfl ?_
  refine WL.pass ((wanted_of rfl rfl rfl).trans rfl) rfl ?_
  refine WL.pass ((wanted_of rfl rfl rfl).trans rfl) rfl ?_
  refine WL.pickF (v := .bool false) rfl rfl ?_
  refine WL.move (v := .bool false) rfl ?_
  refine WL.pass ((wanted_of rfl rfl rfl).trans rfl) rfl ?_
  refine WL.pass ((wanted_of rfl rfl rfl).trans rfl) rfl ?_
  refine WL.pass ((wanted_of rfl rfl rfl).trans rfl) rfl ?_
  refine WL.pass ((wanted_of rfl rfl rfl).trans rfl) rfl ?_
  refine WL.pickF (v := .bool false) rfl rfl ?_
  refine WL.move (v := .bool false) rfl ?_
  refine WL.pass ((wanted_of rfl rfl rfl).trans rfl) rfl ?_
  refine WL.pass ((wanted_of rfl rfl rfl).trans rfl) rfl ?_
  refine WL.pass ((wanted_of rfl rfl rfl).trans rfl) rfl ?_
  refine WL.pass ((wanted_of rfl rfl rfl).trans rfl) rfl ?_
  refine WL.pickF (v := .bool false) rfl rfl ?_
  refine WL.move (v := .bool false) rfl ?_
  refine WL.pass ((wanted_of rfl rfl rfl).trans rfl) rfl ?_
  refine WL.pass ((wanted_of rfl rfl rfl).trans rfl) rfl ?_
  refine WL.pass ((wanted_of rfl rfl rfl).trans rfl) rfl ?_
  refine WL.pass ((wanted_of rfl rfl rfl).trans rfl) rfl ?_
  refine WL.pass ((wanted_of rfl rfl rfl).trans rfl) rfl ?_
  refine WL.pickF (v := .bool false) rfl rfl ?_
  refine WL.move (v := .bool false) rfl ?_
  refine WL.pass ((wanted_of rfl rfl rfl).trans rfl) rfl ?_
  refine WL.pass ((wanted_of rfl rfl rfl).trans rfl) rfl ?_
  refine WL.pass ((wanted_of rfl rfl rfl).trans rfl) rfl ?_
  refine WL.pass ((wanted_of rfl rfl rfl).trans rfl) rfl ?_
  refine WL.pass ((wanted_of rfl rfl rfl).trans rfl) rfl ?_
  refine WL.pass ((wanted_of rfl rfl rfl).trans rfl) rfl ?_
  refine WL.pass ((wanted_of rfl rfl rfl).trans rfl) rfl ?_
  refine WL.pickF (v := .bool false) rfl rfl ?_
  refine WL.assign (v := .bool false) rfl ?_
  refine WL.nil ?_
  exact Jk23 false _ _ rfl ((hs.mask []).pick []) hf }
end Go.Proofs.Ytbbeobiampbddaa
set_option linter.unusedVariables false
set_option linter.unusedSimpArgs false
namespace Go.Proofs.Ytbbeobiampbddaa
open Go Go.RowKit Go.Proofs.YtbbeobiampbddaaL
set_option maxRecDepth 100000
set_option maxHeartbeats 4000000
theorem slices_EqualFunc_Value.calls {ok : Nat → Prop} {w0 : World} {x1 : List history_Value} {x4 : List history_Value} {x7 : history_Value × history_Value → Option Bool} {a2 : Option Addr} {c3 : Nat} {a5 : Option Addr} {c6 : Nat} {v8 : Value} {r : Bool} (hf : slices_EqualFunc_Value x1 x4 x7 = some r) (i0 : (vl (tSlice t_history_Value) x1 (.slice a2 x1.length c3)).holds ok w0) (i1 : (vl (tSlice t_history_Value) x4 (.slice a5 x4.length c6)).holds ok w0) (i2 : (vl (tFun Try.prog (argK2 t_history_Value t_history_Value) (fun r : Bool => .bool r)) x7 v8).holds ok w0) :
    Calls Try.prog 45 #[.slice a2 x1.length c3, .slice a5 x4.length c6, v8] w0 fun e w' => ∃ v, e = .returned v ∧ ∃ y : Unit, v = .bool r ∧ St ok (bz w0) w' [] [] := by
  unfold slices_EqualFunc_Value at hf
  refine calls_of_W (fn := Try.f45) (N := 32) Try.func45 rfl Try.ntmps45 rfl ?_
  have hs : St ok (bz w0) w0 [vl (tSlice t_history_Value) x1 (.slice a2 x1.length c3), vl (tSlice t_history_Value) x4 (.slice a5 x4.length c6), vl (tFun Try.prog (argK2 t_history_Value t_history_Value) (fun r : Bool => .bool r)) x7 v8] [] := St.init (All.cons i0 (All.cons i1 (All.cons i2 All.nil)))
  clear i0 i1 i2
  refine W.seqK fun K9 hK9 => ?_
  refine W.region ?_
  refine WL.assign (v := .bool false) rfl ?_
  refine WL.nil ?_
  refine hK9 _ _ ?_
  refine W.seqK fun K10 hK10 => ?_
  refine W.seqK fun K11 hK11 => ?_
  refine W.region ?_
  refine WL.move (v := .slice a2 x1.length c3) rfl ?_
  refine WL.len (v := .slice a2 x1.length c3) rfl (len_slice UN31) ?_
  refine WL.move (v := .slice a5 x4.length c6) rfl ?_
  refine WL.len (v := .slice a5 x4.length c6) rfl (len_slice UN31) ?_
  refine WL.bin (v := .bool ((x1.length : Int) != (x4.length : Int))) rfl rfl (ib_neq _ _ _) ?_
  refine WL.nil ?_
  refine hK11 _ _ ?_
  rcases iteE hf with ⟨hc12, hf⟩ | ⟨hc12, hf⟩
  {
  refine W.cond_true (bool_tr rfl hc12) ?_
  refine W.seqK fun K13 hK13 => ?_
  refine W.region ?_
  refine WL.assign (v := .bool false) rfl ?_
  refine WL.nil ?_
  refine hK13 _ _ ?_
  refine W.ret ?_
  have hr := Option.some.inj hf; subst hr
  exact ⟨_, resOk_one rfl rfl, (), rfl, (hs.mask []).pick []⟩ }
  {
  refine W.cond_false (bool_tr rfl hc12) ?_
  refine W.skip ?_
  refine hK10 _ _ ?_
  refine W.seqK fun K14 hK14 => ?_
  have Jk16 : ∀  (ρ : Env) (w : World), St ok (bz w0) w [] [] → slices_EqualFunc_Value.j1 = some r → K14 ρ w := by
    intro  ρ w  hs hf
    refine hK14 _ _ ?_
    unfold slices_EqualFunc_Value.j1 at hf
    refine W.seqK fun K17 hK17 => ?_
    refine W.region ?_
    refine WL.assign (v := .bool true) rfl ?_
    refine WL.nil ?_
    refine hK17 _ _ ?_
    refine W.ret ?_
    have hr := Option.some.inj hf; subst hr
    exact ⟨_, resOk_one rfl rfl, (), rfl, (hs.mask []).pick []⟩
  refine W.seqK fun K18 hK18 => ?_
  refine W.region ?_
  refine WL.move (v := .slice a2 x1.length c3) rfl ?_
  refine WL.len (v := .slice a2 x1.length c3) rfl (len_slice UN31) ?_
  refine WL.move (v := .int .i64 0) rfl ?_
  refine WL.nil ?_
  refine hK18 _ _ ?_
  refine W.block ?_
  obtain ⟨bs21, hbs21, hfs21⟩ := bindE hf
  refine W.loop hbs21 (fun s ρ w => match s with | x20 => ρ 1 = .slice a5 x4.length c6 ∧ ρ 2 = v8 ∧ ρ 15 = .slice a2 x1.length c3 ∧ ρ 16 = .int .i64 (x1.length : Int) ∧ ρ 17 = .int .i64 x20 ∧ St ok (bz w0) w [vl (tSlice t_history_Value) x4 (.slice a5 x4.length c6), vl (tFun Try.prog (argK2 t_history_Value t_history_Value) (fun r : Bool => .bool r)) x7 v8, vl (tSlice t_history_Value) x1 (.slice a2 x1.length c3)] []) ⟨rfl, rfl, rfl, rfl, rfl, (hs.mask []).pick [1, 2, 0]⟩ ?_
  intro x20 ρ w os21 hI hf hbbs21
  obtain ⟨h19_1, h19_2, h19_15, h19_16, h19_17, hs⟩ := hI
  unfold slices_EqualFunc_Value.l1 at hf
  refine W.seqK fun K22 hK22 => ?_
  refine W.region ?_
  refine WL.bin (v := .bool (decide (x20 < (x1.length : Int)))) h19_17 h19_16 (ib_lss _ _ _) ?_
  refine WL.nil ?_
  refine hK22 _ _ ?_
  refine W.seqK fun K23 hK23 => ?_
  rcases iteE hf with ⟨hc24, hf⟩ | ⟨hc24, hf⟩
  {
  refine W.cond_true (bool_tr rfl hc24) ?_
  refine W.skip ?_
  refine hK23 _ _ ?_
  refine W.seqK fun K25 hK25 => ?_
  refine W.block ?_
  refine W.seqK fun K26 hK26 => ?_
  refine W.region ?_
  refine WL.move (v := .int .i64 x20) h19_17 ?_
  obtain ⟨x27, hxx27, hf⟩ := bindE hf
  refine WL.indexAddr hs 2 rfl UN31 TI68 h19_15 h19_17 hxx27 (fun ad28 hs => ?_)
  refine WL.loadP hs 0 rfl TI68 (.inl rfl) rfl (fun v29 hs => ?_)
  obtain ⟨cs30, hl31, rfl⟩ := hs.aggv (n := 10) 0 rfl rfl rfl
  refine WL.alloc hs ZV68 (fun g32 w hs => ?_)
  refine WL.assign (v := .int .i64 x20) rfl ?_
  refine WL.storeAll (vs := cs30) hs 0 rfl TI68 rfl rfl rfl hl31 (hs.ones 0 rfl rfl) rfl (fun w hs => ?_)
  refine WL.nil ?_
  refine hK26 _ _ ?_
  refine W.seqK fun K33 hK33 => ?_
  refine W.region ?_
  refine WL.move (v := .slice a5 x4.length c6) h19_1 ?_
  refine WL.move (v := .int .i64 x20) rfl ?_
  obtain ⟨x34, hxx34, hf⟩ := bindE hf
  refine WL.indexAddr hs 2 rfl UN31 TI68 rfl rfl hxx34 (fun ad35 hs => ?_)
  refine WL.loadP hs 0 rfl TI68 (.inl rfl) rfl (fun v36 hs => ?_)
  obtain ⟨cs37, hl38, rfl⟩ := hs.aggv (n := 10) 0 rfl rfl rfl
  refine WL.alloc hs ZV68 (fun g39 w hs => ?_)
  refine WL.storeAll (vs := cs37) hs 0 rfl TI68 rfl rfl rfl hl38 (hs.ones 0 rfl rfl) rfl (fun w hs => ?_)
  refine WL.nil ?_
  refine hK33 _ _ ?_
  refine W.seqK fun K40 hK40 => ?_
  refine W.region ?_
  refine WL.move (v := v8) h19_2 ?_
  refine WL.loadAll hs 1 rfl TI68 rfl hl31 ?_
  refine WL.loadAll hs 0 rfl TI68 rfl hl38 ?_
  obtain ⟨x41, hxx41, hf⟩ := bindE hf
  refine WL.callF (x := (x27, x34)) (vs := [.agg cs30.toArray, .agg cs37.toArray]) hs 5 rfl rfl ⟨rfl, ⟨rfl, trivial⟩⟩ (fun ok hA => ⟨_, _, rfl, hA.get 2 rfl, hA.get 0 rfl⟩) hxx41 (fun w hs => ?_)
  refine WL.not rfl ?_
  refine WL.nil ?_
  refine hK40 _ _ ?_
  rcases iteE hf with ⟨hc42, hf⟩ | ⟨hc42, hf⟩
  {
  refine W.cond_true (bool_tr rfl hc42) ?_
  refine W.seqK fun K43 hK43 => ?_
  refine W.region ?_
  refine WL.assign (v := .bool false) rfl ?_
  refine WL.nil ?_
  refine hK43 _ _ ?_
  refine W.ret ?_
  have hr := Option.some.inj hf; subst hr
  have hr := hbbs21 _ rfl; subst hr
  have hf := hfs21
  have hr := Option.some.inj hf; subst hr
  exact ⟨_, resOk_one rfl rfl, (), rfl, (hs.mask []).pick []⟩ }
  {
  refine W.cond_false (bool_tr rfl hc42) ?_
  refine W.skip ?_
  refine hK25 _ _ ?_
  refine W.region ?_
  obtain ⟨x44, ex44, hf⟩ := letE hf
  refine WL.bin (v := .int .i64 x44) h19_17 rfl (ib_as ex44 (ib_add _ _ _)) ?_
  refine WL.move (v := .int .i64 x44) rfl ?_
  refine WL.nil ?_
  exact ⟨_, (Option.some.inj hf).symm, h19_1, h19_2, h19_15, h19_16, rfl, (hs.mask []).pick [4, 5, 6]⟩ } }
  {
  refine W.cond_false (bool_tr rfl hc24) ?_
  refine W.exit ?_
  have hr := Option.some.inj hf; subst hr
  have hr := hbbs21 _ rfl; subst hr
  have hf := hfs21
  exact Jk16  _ _  ((hs.mask []).pick []) hf } }
theorem slices_Equal_string.calls {ok : Nat → Prop} {w0 : World} {x1 : List (List UInt8)} {x4 : List (List UInt8)} {a2 : Option Addr} {c3 : Nat} {a5 : Option Addr} {c6 : Nat} {r : Bool} (hf : slices_Equal_string x1 x4 = some r) (i0 : (vl (tSlice tStr) x1 (.slice a2 x1.length c3)).holds ok w0) (i1 : (vl (tSlice tStr) x4 (.slice a5 x4.length c6)).holds ok w0) :
    Calls Try.prog 56 #[.slice a2 x1.length c3, .slice a5 x4.length c6] w0 fun e w' => ∃ v, e = .returned v ∧ ∃ y : Unit, v = .bool r ∧ St ok (bz w0) w' [] [] := by
  unfold slices_Equal_string at hf
  refine calls_of_W (fn := Try.f56) (N := 26) Try.func56 rfl Try.ntmps56 rfl ?_
  have hs : St ok (bz w0) w0 [vl (tSlice tStr) x1 (.slice a2 x1.length c3), vl (tSlice tStr) x4 (.slice a5 x4.length c6)] [] := St.init (All.cons i0 (All.cons i1 All.nil))
  clear i0 i1
  refine W.seqK fun K7 hK7 => ?_
  refine W.region ?_
  refine WL.assign (v := .bool false) rfl ?_
  refine WL.nil ?_
  refine hK7 _ _ ?_
  refine W.seqK fun K8 hK8 => ?_
  refine W.seqK fun K9 hK9 => ?_
  refine W.region ?_
  refine WL.move (v := .slice a2 x1.length c3) rfl ?_
  refine WL.len (v := .slice a2 x1.length c3) rfl (len_slice UN59) ?_
  refine WL.move (v := .slice a5 x4.length c6) rfl ?_
  refine WL.len (v := .slice a5 x4.length c6) rfl (len_slice UN59) ?_
  refine WL.bin (v := .bool ((x1.length : Int) != (x4.length : Int))) rfl rfl (ib_neq _ _ _) ?_
  refine WL.nil ?_
  refine hK9 _ _ ?_
  rcases iteE hf with ⟨hc10, hf⟩ | ⟨hc10, hf⟩
  {
  refine W.cond_true (bool_tr rfl hc10) ?_
  refine W.seqK fun K11 hK11 => ?_
  refine W.region ?_
  refine WL.assign (v := .bool false) rfl ?_
  refine WL.nil ?_
  refine hK11 _ _ ?_
  refine W.ret ?_
  have hr := Option.some.inj hf; subst hr
  exact ⟨_, resOk_one rfl rfl, (), rfl, (hs.mask []).pick []⟩ }
  {
  refine W.cond_false (bool_tr rfl hc10) ?_
  refine W.skip ?_
  refine hK8 _ _ ?_
  refine W.seqK fun K12 hK12 => ?_
  have Jk14 : ∀  (ρ : Env) (w : World), St ok (bz w0) w [] [] → slices_Equal_string.j1 = some r → K12 ρ w := by
    intro  ρ w  hs hf
    refine hK12 _ _ ?_
    unfold slices_Equal_string.j1 at hf
    refine W.seqK fun K15 hK15 => ?_
    refine W.region ?_
    refine WL.assign (v := .bool true) rfl ?_
    refine WL.nil ?_
    refine hK15 _ _ ?_
    refine W.ret ?_
    have hr := Option.some.inj hf; subst hr
    exact ⟨_, resOk_one rfl rfl, (), rfl, (hs.mask []).pick []⟩
  refine W.seqK fun K16 hK16 => ?_
  refine W.region ?_
  refine WL.move (v := .slice a2 x1.length c3) rfl ?_
  refine WL.len (v := .slice a2 x1.length c3) rfl (len_slice UN59) ?_
  refine WL.move (v := .int .i64 0) rfl ?_
  refine WL.nil ?_
  refine hK16 _ _ ?_
  refine W.block ?_
  obtain ⟨bs19, hbs19, hfs19⟩ := bindE hf
  refine W.loop hbs19 (fun s ρ w => match s with | x18 => ρ 0 = .slice a2 x1.length c3 ∧ ρ 1 = .slice a5 x4.length c6 ∧ ρ 12 = .int .i64 (x1.length : Int) ∧ ρ 13 = .int .i64 x18 ∧ St ok (bz w0) w [vl (tSlice tStr) x1 (.slice a2 x1.length c3), vl (tSlice tStr) x4 (.slice a5 x4.length c6)] []) ⟨rfl, rfl, rfl, rfl, (hs.mask []).pick [0, 1]⟩ ?_
  intro x18 ρ w os19 hI hf hbbs19
  obtain ⟨h17_0, h17_1, h17_12, h17_13, hs⟩ := hI
  unfold slices_Equal_string.l1 at hf
  refine W.seqK fun K20 hK20 => ?_
  refine W.region ?_
  refine WL.bin (v := .bool (decide (x18 < (x1.length : Int)))) h17_13 h17_12 (ib_lss _ _ _) ?_
  refine WL.nil ?_
  refine hK20 _ _ ?_
  refine W.seqK fun K21 hK21 => ?_
  rcases iteE hf with ⟨hc22, hf⟩ | ⟨hc22, hf⟩
  {
  refine W.cond_true (bool_tr rfl hc22) ?_
  refine W.skip ?_
  refine hK21 _ _ ?_
  refine W.seqK fun K23 hK23 => ?_
  refine W.block ?_
  refine W.seqK fun K24 hK24 => ?_
  refine W.region ?_
  refine WL.move (v := .int .i64 x18) h17_13 ?_
  refine WL.assign (v := .int .i64 x18) rfl ?_
  refine WL.nil ?_
  refine hK24 _ _ ?_
  refine W.seqK fun K25 hK25 => ?_
  obtain ⟨x26, hxx26, hf⟩ := bindE hf
  obtain ⟨x29, hxx29, hf⟩ := bindE hf
  refine W.any (by kernel_rfl) 9 0 [true, true, true, true, true, true, true, true, true] rfl rfl (poAt [pv (.slice a2 x1.length c3), pv (.int .i64 x18), pq (fun y : Addr => .pointer (some y)) (fun v => [pl tStr x26 (adOf v)]) (fun v => []), pv (bstr x26), pv (.slice a5 x4.length c6), pv (.int .i64 x18), pq (fun y : Addr => .pointer (some y)) (fun v => [pl tStr x29 (adOf v)]) (fun v => []), pv (bstr x29), pv (.bool (x26 != x29))]) (Λ := []) hs (by kernel_rfl) (by kernel_rfl) (by kernel_rfl) ⟨⟨⟨⟨⟨⟨⟨⟨⟨trivial, ?_⟩, ?_⟩, ?_⟩, ?_⟩, ?_⟩, ?_⟩, ?_⟩, ?_⟩, ?_⟩ ?_
  {
  intro ρ w Γx Λx hs hu hp
  refine WL.move (v := .slice a2 x1.length c3) ((hu 0 rfl).trans h17_0) ?_
  exact WL.nil ⟨rfl, _, rfl, rfl, hs.cutG 0 0⟩ }
  {
  intro ρ w Γx Λx hs hu hp
  refine WL.move (v := .int .i64 x18) (hu 5 rfl) ?_
  exact WL.nil ⟨rfl, _, rfl, rfl, hs.cutG 0 0⟩ }
  {
  intro ρ w Γx Λx hs hu hp
  have e32 : ρ 16 = .slice a2 x1.length c3 := (hp 0 rfl).1
  have e33 : ρ 17 = .int .i64 x18 := (hp 1 rfl).1
  refine WL.indexAddr hs (Γx.length + 0) (getApp rfl) UN59 TI9 e32 e33 hxx26 (fun ad27 hs => ?_)
  have hs := hs.add (it := pl tStr x26 ad27) fun ok hA => hA.get 0 rfl
  exact WL.nil ⟨rfl, _, rfl, ⟨ad27, rfl⟩, hs.cutG 1 1⟩ }
  {
  intro ρ w Γx Λx hs hu hp
  obtain ⟨⟨ad34, e35r⟩, hm36⟩ := hp 2 rfl
  have e35 : ρ 18 = .pointer (some ad34) := e35r
  rw [e35r] at hm36
  have hs := hs.memo1 (it := pl tStr x26 ad34) (List.mem_append.2 (.inl (hm36 _ (List.mem_of_getElem? (i := 0) rfl))))
  refine WL.loadP hs 0 rfl TI9 (.inr rfl) e35 (fun v28 hs => ?_)
  obtain rfl := hs.str 0 rfl
  exact WL.nil ⟨rfl, _, rfl, rfl, hs.cutG 0 2⟩ }
  {
  intro ρ w Γx Λx hs hu hp
  refine WL.move (v := .slice a5 x4.length c6) ((hu 1 rfl).trans h17_1) ?_
  exact WL.nil ⟨rfl, _, rfl, rfl, hs.cutG 0 0⟩ }
  {
  intro ρ w Γx Λx hs hu hp
  refine WL.move (v := .int .i64 x18) (hu 5 rfl) ?_
  exact WL.nil ⟨rfl, _, rfl, rfl, hs.cutG 0 0⟩ }
  {
  intro ρ w Γx Λx hs hu hp
  have e37 : ρ 20 = .slice a5 x4.length c6 := (hp 4 rfl).1
  have e38 : ρ 21 = .int .i64 x18 := (hp 5 rfl).1
  refine WL.indexAddr hs (Γx.length + 1) (getApp rfl) UN59 TI9 e37 e38 hxx29 (fun ad30 hs => ?_)
  have hs := hs.add (it := pl tStr x29 ad30) fun ok hA => hA.get 0 rfl
  exact WL.nil ⟨rfl, _, rfl, ⟨ad30, rfl⟩, hs.cutG 1 1⟩ }
  {
  intro ρ w Γx Λx hs hu hp
  obtain ⟨⟨ad39, e40r⟩, hm41⟩ := hp 6 rfl
  have e40 : ρ 22 = .pointer (some ad39) := e40r
  rw [e40r] at hm41
  have hs := hs.memo1 (it := pl tStr x29 ad39) (List.mem_append.2 (.inl (hm41 _ (List.mem_of_getElem? (i := 0) rfl))))
  refine WL.loadP hs 0 rfl TI9 (.inr rfl) e40 (fun v31 hs => ?_)
  obtain rfl := hs.str 0 rfl
  exact WL.nil ⟨rfl, _, rfl, rfl, hs.cutG 0 2⟩ }
  {
  intro ρ w Γx Λx hs hu hp
  have e42 : ρ 19 = bstr x26 := (hp 3 rfl).1
  have e43 : ρ 23 = bstr x29 := (hp 7 rfl).1
  refine WL.binS (v := .bool (x26 != x29)) e42 e43 (sb_neq _ _) ?_
  exact WL.nil ⟨rfl, _, rfl, rfl, hs.cutG 0 0⟩ }
  {
  intro ρ w hs hu44 hp
  obtain ⟨⟨⟨⟨⟨⟨⟨⟨⟨_, hp0_⟩, hp1_⟩, hp2_⟩, hp3_⟩, hp4_⟩, hp5_⟩, hp6_⟩, hp7_⟩, hp8_⟩ := hp
  have hs : St ok (bz w0) w [pl tStr x29 (adOf (ρ 22)), pl tStr x26 (adOf (ρ 18)), vl (tSlice tStr) x1 (.slice a2 x1.length c3), vl (tSlice tStr) x4 (.slice a5 x4.length c6)] [] := hs
  have e45 : ρ 24 = .bool (x26 != x29) := hp8_
  have e46 : ρ 23 = bstr x29 := hp7_
  obtain ⟨ad47, e48⟩ := hp6_
  have e48 : ρ 22 = .pointer (some ad47) := e48
  try rw [e48] at hs
  have e49 : ρ 21 = .int .i64 x18 := hp5_
  have e50 : ρ 20 = .slice a5 x4.length c6 := hp4_
  have e51 : ρ 19 = bstr x26 := hp3_
  obtain ⟨ad52, e53⟩ := hp2_
  have e53 : ρ 18 = .pointer (some ad52) := e53
  try rw [e53] at hs
  have e54 : ρ 17 = .int .i64 x18 := hp1_
  have e55 : ρ 16 = .slice a2 x1.length c3 := hp0_
  refine WA.done (by kernel_rfl) ?_
  refine hK25 _ _ ?_
  rcases iteE hf with ⟨hc56, hf⟩ | ⟨hc56, hf⟩
  {
  refine W.cond_true (bool_tr e45 hc56) ?_
  refine W.seqK fun K57 hK57 => ?_
  refine W.region ?_
  refine WL.assign (v := .bool false) rfl ?_
  refine WL.nil ?_
  refine hK57 _ _ ?_
  refine W.ret ?_
  have hr := Option.some.inj hf; subst hr
  have hr := hbbs19 _ rfl; subst hr
  have hf := hfs19
  have hr := Option.some.inj hf; subst hr
  exact ⟨_, resOk_one rfl rfl, (), rfl, (hs.mask []).pick []⟩ }
  {
  refine W.cond_false (bool_tr e45 hc56) ?_
  refine W.skip ?_
  refine hK23 _ _ ?_
  refine W.region ?_
  obtain ⟨x58, ex58, hf⟩ := letE hf
  refine WL.bin (v := .int .i64 x58) ((hu44 13 rfl).trans h17_13) rfl (ib_as ex58 (ib_add _ _ _)) ?_
  refine WL.move (v := .int .i64 x58) rfl ?_
  refine WL.nil ?_
  exact ⟨_, (Option.some.inj hf).symm, ((hu44 0 rfl).trans h17_0), ((hu44 1 rfl).trans h17_1), ((hu44 12 rfl).trans h17_12), rfl, (hs.mask []).pick [2, 3]⟩ } } }
  {
  refine W.cond_false (bool_tr rfl hc22) ?_
  refine W.exit ?_
  have hr := Option.some.inj hf; subst hr
  have hr := hbbs19 _ rfl; subst hr
  have hf := hfs19
  exact Jk14  _ _  ((hs.mask []).pick []) hf } }
theorem history_sameValue.calls {ok : Nat → Prop} {w0 : World} {x1 : history_Value} {x5 : history_Value} {v2 : Value} {v6 : Value} {r : Bool} (hf : history_sameValue x1 x5 = some r) (i0 : (vl t_history_Value x1 v2).holds ok w0) (i1 : (vl t_history_Value x5 v6).holds ok w0) :
    Calls Try.prog 46 #[v2, v6] w0 fun e w' => ∃ v, e = .returned v ∧ ∃ y : Unit, v = .bool r ∧ St ok (bz w0) w' [] [] := by
  unfold history_sameValue at hf
  refine calls_of_W (fn := Try.f46) (N := 73) Try.func46 rfl Try.ntmps46 rfl ?_
  have hs : St ok (bz w0) w0 [vl t_history_Value x1 v2, vl t_history_Value x5 v6] [] := St.init (All.cons i0 (All.cons i1 All.nil))
  clear i0 i1
  obtain ⟨cs3, hl4, rfl⟩ := hs.aggv (n := 10) 0 rfl rfl rfl
  obtain ⟨cs7, hl8, rfl⟩ := hs.aggv (n := 10) 1 rfl rfl rfl
  refine W.seqK fun K9 hK9 => ?_
  refine W.region ?_
  refine WL.box (vs := cs3) hs rfl rfl (fun g10 w hs => ?_)
  refine WL.box (vs := cs7) hs rfl rfl (fun g11 w hs => ?_)
  refine WL.assign (v := .bool false) rfl ?_
  refine WL.nil ?_
  refine hK9 _ _ ?_
  refine W.seqK fun K12 hK12 => ?_
  have Jk15 : ∀ (x14 : Bool) (ρ : Env) (w : World), ρ 4 = .bool x14 → St ok (bz w0) w [] [] → history_sameValue.j1 x14 = some r → K12 ρ w := by
    intro x14 ρ w h13_4 hs hf
    refine hK12 _ _ ?_
    unfold history_sameValue.j1 at hf
    refine W.ret ?_
    have hr := Option.some.inj hf; subst hr
    exact ⟨_, resOk_one rfl h13_4, (), rfl, (hs.mask []).pick []⟩
  refine W.region ?_
  refine WL.fieldAddr (m := 0) rfl FA68_0 rfl ?_
  refine WL.loadF (z := x1.Object) F_history_Value_Object hs 1 rfl 0 rfl rfl TI9 (.inr rfl) rfl rfl (fun v16 hs => ?_)
  obtain rfl := hs.str 0 rfl
  refine WL.fieldAddr (m := 0) rfl FA68_0 rfl ?_
  refine WL.loadF (z := x5.Object) F_history_Value_Object hs 0 rfl 2 rfl rfl TI9 (.inr rfl) rfl rfl (fun v17 hs => ?_)
  obtain rfl := hs.str 0 rfl
  refine WL.binS (v := .bool (x1.Object == x5.Object)) rfl rfl (sb_eql _ _) ?_
  refine WL.move (v := .bool (x1.Object == x5.Object)) rfl ?_
  rcases iteE hf with ⟨hc18, hf⟩ | ⟨hc18, hf⟩
  {
  refine WL.fieldAddr (m := 1) rfl FA68_1 rfl ?_ (hg := (wanted_of rfl rfl (bool_tr rfl hc18)).trans rfl)
  refine WL.loadF (z := x1.Field) F_history_Value_Field hs 1 rfl 2 rfl rfl TI9 (.inr rfl) rfl rfl (fun v19 hs => ?_) (hg := (wanted_of rfl rfl (bool_tr rfl hc18)).trans rfl)
  obtain rfl := hs.str 0 rfl
  refine WL.fieldAddr (m := 1) rfl FA68_1 rfl ?_ (hg := (wanted_of rfl rfl (bool_tr rfl hc18)).trans rfl)
  refine WL.loadF (z := x5.Field) F_history_Value_Field hs 0 rfl 4 rfl rfl TI9 (.inr rfl) rfl rfl (fun v20 hs => ?_) (hg := (wanted_of rfl rfl (bool_tr rfl hc18)).trans rfl)
  obtain rfl := hs.str 0 rfl
  refine WL.binS (v := .bool (x1.Field == x5.Field)) rfl rfl (sb_eql _ _) ?_ (hg := (wanted_of rfl rfl (bool_tr rfl hc18)).trans rfl)
  refine WL.pickT (v := .bool (x1.Field == x5.Field)) (bool_tr rfl hc18) rfl ?_
  refine WL.move (v := .bool (x1.Field == x5.Field)) rfl ?_
  rcases iteE hf with ⟨hc21, hf⟩ | ⟨hc21, hf⟩
  {
  refine WL.fieldAddr (m := 2) rfl FA68_2 rfl ?_ (hg := (wanted_of rfl rfl (bool_tr rfl hc21)).trans rfl)
  refine WL.loadF (z := x1.Set) F_history_Value_Set hs 1 rfl 4 rfl rfl TI4 (.inr rfl) rfl rfl (fun v22 hs => ?_) (hg := (wanted_of rfl rfl (bool_tr rfl hc21)).trans rfl)
  obtain rfl := hs.bool 0 rfl
  refine WL.fieldAddr (m := 2) rfl FA68_2 rfl ?_ (hg := (wanted_of rfl rfl (bool_tr rfl hc21)).trans rfl)
  refine WL.loadF (z := x5.Set) F_history_Value_Set hs 0 rfl 6 rfl rfl TI4 (.inr rfl) rfl rfl (fun v23 hs => ?_) (hg := (wanted_of rfl rfl (bool_tr rfl hc21)).trans rfl)
  obtain rfl := hs.bool 0 rfl
  refine WL.eqB UN4 rfl rfl ?_ (hg := (wanted_of rfl rfl (bool_tr rfl hc21)).trans rfl)
  refine WL.pickT (v := .bool (x1.Set == x5.Set)) (bool_tr rfl hc21) rfl ?_
  refine WL.move (v := .bool (x1.Set == x5.Set)) rfl ?_
  rcases iteE hf with ⟨hc24, hf⟩ | ⟨hc24, hf⟩
  {
  refine WL.fieldAddr (m := 3) rfl FA68_3 rfl ?_ (hg := (wanted_of rfl rfl (bool_tr rfl hc24)).trans rfl)
  refine WL.loadF (z := x1.N) F_history_Value_N hs 1 rfl 6 rfl rfl TI2 (.inr rfl) rfl rfl (fun v25 hs => ?_) (hg := (wanted_of rfl rfl (bool_tr rfl hc24)).trans rfl)
  obtain rfl := hs.int 0 rfl
  refine WL.fieldAddr (m := 3) rfl FA68_3 rfl ?_ (hg := (wanted_of rfl rfl (bool_tr rfl hc24)).trans rfl)
  refine WL.loadF (z := x5.N) F_history_Value_N hs 0 rfl 8 rfl rfl TI2 (.inr rfl) rfl rfl (fun v26 hs => ?_) (hg := (wanted_of rfl rfl (bool_tr rfl hc24)).trans rfl)
  obtain rfl := hs.int 0 rfl
  refine WL.bin (v := .bool (x1.N == x5.N)) rfl rfl (ib_eql _ _ _) ?_ (hg := (wanted_of rfl rfl (bool_tr rfl hc24)).trans rfl)
  refine WL.pickT (v := .bool (x1.N == x5.N)) (bool_tr rfl hc24) rfl ?_
  refine WL.move (v := .bool (x1.N == x5.N)) rfl ?_
  rcases iteE hf with ⟨hc27, hf⟩ | ⟨hc27, hf⟩
  {
  refine WL.fieldAddr (m := 4) rfl FA68_4 rfl ?_ (hg := (wanted_of rfl rfl (bool_tr rfl hc27)).trans rfl)
  refine WL.loadF (z := x1.S) F_history_Value_S hs 1 rfl 8 rfl rfl TI9 (.inr rfl) rfl rfl (fun v28 hs => ?_) (hg := (wanted_of rfl rfl (bool_tr rfl hc27)).trans rfl)
  obtain rfl := hs.str 0 rfl
  refine WL.fieldAddr (m := 4) rfl FA68_4 rfl ?_ (hg := (wanted_of rfl rfl (bool_tr rfl hc27)).trans rfl)
  refine WL.loadF (z := x5.S) F_history_Value_S hs 0 rfl 10 rfl rfl TI9 (.inr rfl) rfl rfl (fun v29 hs => ?_) (hg := (wanted_of rfl rfl (bool_tr rfl hc27)).trans rfl)
  obtain rfl := hs.str 0 rfl
  refine WL.binS (v := .bool (x1.S == x5.S)) rfl rfl (sb_eql _ _) ?_ (hg := (wanted_of rfl rfl (bool_tr rfl hc27)).trans rfl)
  refine WL.pickT (v := .bool (x1.S == x5.S)) (bool_tr rfl hc27) rfl ?_
  refine WL.move (v := .bool (x1.S == x5.S)) rfl ?_
  rcases iteE hf with ⟨hc30, hf⟩ | ⟨hc30, hf⟩
  {
  refine WL.fieldAddr (m := 5) rfl FA68_5 rfl ?_ (hg := (wanted_of rfl rfl (bool_tr rfl hc30)).trans rfl)
  refine WL.loadF (z := x1.HasMax) F_history_Value_HasMax hs 1 rfl 10 rfl rfl TI4 (.inr rfl) rfl rfl (fun v31 hs => ?_) (hg := (wanted_of rfl rfl (bool_tr rfl hc30)).trans rfl)
  obtain rfl := hs.bool 0 rfl
  refine WL.fieldAddr (m := 5) rfl FA68_5 rfl ?_ (hg := (wanted_of rfl rfl (bool_tr rfl hc30)).trans rfl)
  refine WL.loadF (z := x5.HasMax) F_history_Value_HasMax hs 0 rfl 12 rfl rfl TI4 (.inr rfl) rfl rfl (fun v32 hs => ?_) (hg := (wanted_of rfl rfl (bool_tr rfl hc30)).trans rfl)
  obtain rfl := hs.bool 0 rfl
  refine WL.eqB UN4 rfl rfl ?_ (hg := (wanted_of rfl rfl (bool_tr rfl hc30)).trans rfl)
  refine WL.pickT (v := .bool (x1.HasMax == x5.HasMax)) (bool_tr rfl hc30) rfl ?_
  refine WL.move (v := .bool (x1.HasMax == x5.HasMax)) rfl ?_
  rcases iteE hf with ⟨hc33, hf⟩ | ⟨hc33, hf⟩
  {
  refine WL.fieldAddr (m := 6) rfl FA68_6 rfl ?_ (hg := (wanted_of rfl rfl (bool_tr rfl hc33)).trans rfl)
  refine WL.loadF (z := x1.Max) F_history_Value_Max hs 1 rfl 12 rfl rfl TI2 (.inr rfl) rfl rfl (fun v34 hs => ?_) (hg := (wanted_of rfl rfl (bool_tr rfl hc33)).trans rfl)
  obtain rfl := hs.int 0 rfl
  refine WL.fieldAddr (m := 6) rfl FA68_6 rfl ?_ (hg := (wanted_of rfl rfl (bool_tr rfl hc33)).trans rfl)
  refine WL.loadF (z := x5.Max) F_history_Value_Max hs 0 rfl 14 rfl rfl TI2 (.inr rfl) rfl rfl (fun v35 hs => ?_) (hg := (wanted_of rfl rfl (bool_tr rfl hc33)).trans rfl)
  obtain rfl := hs.int 0 rfl
  refine WL.bin (v := .bool (x1.Max == x5.Max)) rfl rfl (ib_eql _ _ _) ?_ (hg := (wanted_of rfl rfl (bool_tr rfl hc33)).trans rfl)
  refine WL.pickT (v := .bool (x1.Max == x5.Max)) (bool_tr rfl hc33) rfl ?_
  refine WL.move (v := .bool (x1.Max == x5.Max)) rfl ?_
  rcases iteE hf with ⟨hc36, hf⟩ | ⟨hc36, hf⟩
  {
  refine WL.fieldAddr (m := 7) rfl FA68_7 rfl ?_ (hg := (wanted_of rfl rfl (bool_tr rfl hc36)).trans rfl)
  refine WL.loadF (z := x1.Sum) F_history_Value_Sum hs 1 rfl 14 rfl rfl TI2 (.inr rfl) rfl rfl (fun v37 hs => ?_) (hg := (wanted_of rfl rfl (bool_tr rfl hc36)).trans rfl)
  obtain rfl := hs.int 0 rfl
  refine WL.fieldAddr (m := 7) rfl FA68_7 rfl ?_ (hg := (wanted_of rfl rfl (bool_tr rfl hc36)).trans rfl)
  refine WL.loadF (z := x5.Sum) F_history_Value_Sum hs 0 rfl 16 rfl rfl TI2 (.inr rfl) rfl rfl (fun v38 hs => ?_) (hg := (wanted_of rfl rfl (bool_tr rfl hc36)).trans rfl)
  obtain rfl := hs.int 0 rfl
  refine WL.bin (v := .bool (x1.Sum == x5.Sum)) rfl rfl (ib_eql _ _ _) ?_ (hg := (wanted_of rfl rfl (bool_tr rfl hc36)).trans rfl)
  refine WL.pickT (v := .bool (x1.Sum == x5.Sum)) (bool_tr rfl hc36) rfl ?_
  refine WL.move (v := .bool (x1.Sum == x5.Sum)) rfl ?_
  rcases iteE hf with ⟨hc39, hf⟩ | ⟨hc39, hf⟩
  {
  refine WL.fieldAddr (m := 8) rfl FA68_8 rfl ?_ (hg := (wanted_of rfl rfl (bool_tr rfl hc39)).trans rfl)
  refine WL.loadF (z := x1.Elems) F_history_Value_Elems hs 1 rfl 16 rfl rfl TI59 (.inr rfl) rfl rfl (fun v40 hs => ?_) (hg := (wanted_of rfl rfl (bool_tr rfl hc39)).trans rfl)
  obtain ⟨a41, c42, rfl⟩ := hs.slice 0 rfl
  refine WL.fieldAddr (m := 8) rfl FA68_8 rfl ?_ (hg := (wanted_of rfl rfl (bool_tr rfl hc39)).trans rfl)
  refine WL.loadF (z := x5.Elems) F_history_Value_Elems hs 0 rfl 18 rfl rfl TI59 (.inr rfl) rfl rfl (fun v43 hs => ?_) (hg := (wanted_of rfl rfl (bool_tr rfl hc39)).trans rfl)
  obtain ⟨a44, c45, rfl⟩ := hs.slice 0 rfl
  obtain ⟨x46, hxx46, hf⟩ := bindE hf
  refine WL.call (vs := [.slice a41 (x1.Elems).length c42, .slice a44 (x5.Elems).length c45]) hs FN56 ⟨rfl, ⟨rfl, trivial⟩⟩ (fun ok hA => slices_Equal_string.calls (x1 := x1.Elems) (x4 := x5.Elems) hxx46 (hA.get 1 rfl) (hA.get 0 rfl)) ?_ (hg := (wanted_of rfl rfl (bool_tr rfl hc39)).trans rfl)
  rintro _ w hs
  refine WL.pickT (v := .bool x46) (bool_tr rfl hc39) rfl ?_
  refine WL.move (v := .bool x46) rfl ?_
  rcases iteE hf with ⟨hc47, hf⟩ | ⟨hc47, hf⟩
  {
  refine WL.fieldAddr (m := 9) rfl FA68_9 rfl ?_ (hg := (wanted_of rfl rfl (bool_tr rfl hc47)).trans rfl)
  refine WL.loadF (z := x1.Flag) F_history_Value_Flag hs 1 rfl 18 rfl rfl TI4 (.inr rfl) rfl rfl (fun v48 hs => ?_) (hg := (wanted_of rfl rfl (bool_tr rfl hc47)).trans rfl)
  obtain rfl := hs.bool 0 rfl
  refine WL.fieldAddr (m := 9) rfl FA68_9 rfl ?_ (hg := (wanted_of rfl rfl (bool_tr rfl hc47)).trans rfl)
  refine WL.loadF (z := x5.Flag) F_history_Value_Flag hs 0 rfl 20 rfl rfl TI4 (.inr rfl) rfl rfl (fun v49 hs => ?_) (hg := (wanted_of rfl rfl (bool_tr rfl hc47)).trans rfl)
  obtain rfl := hs.bool 0 rfl
  refine WL.eqB UN4 rfl rfl ?_ (hg := (wanted_of rfl rfl (bool_tr rfl hc47)).trans rfl)
  refine WL.pickT (v := .bool (x1.Flag == x5.Flag)) (bool_tr rfl hc47) rfl ?_
  refine WL.assign (v := .bool (x1.Flag == x5.Flag)) rfl ?_
  refine WL.nil ?_
  exact Jk15 (x1.Flag == x5.Flag) _ _ rfl ((hs.mask []).pick []) hf }
  {
  refine WL.pass ((wanted_of rfl rfl (bool_tr rfl hc47)).trans rfl) rfl ?_
  refine WL.pass ((wanted_of rfl rfl (bool_tr rfl hc47)).trans rfl) rfl ?_
  refine WL.pass ((wanted_of rfl rfl (bool_tr rfl hc47)).trans rfl) rfl ?_
  refine WL.pass ((wanted_of rfl rfl (bool_tr rfl hc47)).trans rfl) rfl ?_
  refine WL.pass ((wanted_of rfl rfl (bool_tr rfl hc47)).trans rfl) rfl ?_
  refine WL.pickF (v := .bool false) (bool_tr rfl hc47) rfl ?_
  refine WL.assign (v := .bool false) rfl ?_
  refine WL.nil ?_
  exact Jk15 false _ _ rfl ((hs.mask []).pick []) hf } }
  {
  refine WL.pass ((wanted_of rfl rfl (bool_tr rfl hc39)).trans rfl) rfl ?_
  refine WL.pass ((wanted_of rfl rfl (bool_tr rfl hc39)).trans rfl) rfl ?_
  refine WL.pass ((wanted_of rfl rfl (bool_tr rfl hc39)).trans rfl) rfl ?_
  refine WL.pass ((wanted_of rfl rfl (bool_tr rfl hc39)).trans rfl) rfl ?_
  refine WL.pass ((wanted_of rfl rfl (bool_tr rfl hc39)).trans rfl) rfl ?_
  refine WL.pickF (v := .bool false) (bool_tr rfl hc39) rfl ?_
  refine WL.move (v := .bool false) rfl ?_
  refine WL.pass ((wanted_of rfl rfl rfl).trans rfl) rfl ?_
  refine WL.pass ((wanted_of rfl rfl rfl).trans rfl) rfl ?_
  refine WL.pass ((wanted_of rfl rfl rfl).trans rfl) rfl ?_
  refine WL.pass ((wanted_of rfl rfl rfl).trans rfl) rfl ?_
  refine WL.pass ((wanted_of rfl rfl rfl).trans rfl) rfl ?_
  refine WL.pickF (v := .bool false) rfl rfl ?_
  refine WL.assign (v := .bool false) rfl ?_
  refine WL.nil ?_
  exact Jk15 false _ _ rfl ((hs.mask []).pick []) hf } }
  {
  refine WL.pass ((wanted_of rfl rfl (bool_tr rfl hc36)).trans rfl) rfl ?_
  refine WL.pass ((wanted_of rfl rfl (bool_tr rfl hc36)).trans rfl) rfl ?_
  refine WL.pass ((wanted_of rfl rfl (bool_tr rfl hc36)).trans rfl) rfl ?_
  refine WL.pass ((wanted_of rfl rfl (bool_tr rfl hc36)).trans rfl) rfl ?_
  refine WL.pass ((wanted_of rfl rfl (bool_tr rfl hc36)).trans rfl) rfl ?_
  refine WL.pickF (v := .bool false) (bool_tr rfl hc36) rfl ?_
  refine WL.move (v := .bool false) rfl ?_
  refine WL.pass ((wanted_of rfl rfl rfl).trans rfl) rfl ?_
  refine WL.pass ((wanted_of rfl rfl rfl).trans rfl) rfl ?_
  refine WL.pass ((wanted_of rfl rfl rfl).trans rfl) rfl ?_
  refine WL.pass ((wanted_of rfl rfl rfl).trans rfl) rfl ?_
  refine WL.pass ((wanted_of rfl rfl rfl).trans rfl) rfl ?_
  refine WL.pickF (v := .bool false) rfl rfl ?_
  refine WL.move (v := .bool false) rfl ?_
  refine WL.pass ((wanted_of rfl rfl rfl).trans rfl) rfl ?_
  refine WL.pass ((wanted_of rfl rfl rfl).trans rfl) rfl ?_
  refine WL.pass ((wanted_of rfl rfl rfl).trans rfl) rfl ?_
  refine WL.pass ((wanted_of rfl rfl rfl).trans rfl) rfl ?_
  refine WL.pass ((wanted_of rfl rfl rfl).trans rfl) rfl ?_
  refine WL.pickF (v := .bool false) rfl rfl ?_
  refine WL.assign (v := .bool false) rfl ?_
  refine WL.nil ?_
  exact Jk15 false _ _ rfl ((hs.mask []).pick []) hf } }
  {
  refine WL.pass ((wanted_of rfl rfl (bool_tr rfl hc33)).trans rfl) rfl ?_
  refine WL.pass ((wanted_of rfl rfl (bool_tr rfl hc33)).trans rfl) rfl ?_
  refine WL.pass ((wanted_of rfl rfl (bool_tr rfl hc33)).trans rfl) rfl ?_
  refine WL.pass ((wanted_of rfl rfl (bool_tr rfl hc33)).trans rfl) rfl ?_
  refine WL.pass ((wanted_of rfl rfl (bool_tr rfl hc33)).trans rfl) rfl ?_
  refine WL.pickF (v := .bool false) (bool_tr rfl hc33) rfl ?_
  refine WL.move (v := .bool false) rfl ?_
  refine WL.pass ((wanted_of rfl rfl rfl).trans rfl) rfl ?_
  refine WL.pass ((wanted_of rfl rfl rfl).trans rfl) rfl ?_
  refine WL.pass ((wanted_of rfl rfl rfl).trans rfl) rfl ?_
  refine WL.pass ((wanted_of rfl rfl rfl).trans rfl) rfl ?_
  refine WL.pass ((wanted_of rfl rfl rfl).trans rfl) rfl ?_
  refine WL.pickF (v := .bool false) rfl rfl ?_
  refine WL.move (v := .bool false) rfl ?_
  refine WL.pass ((wanted_of rfl rfl rfl).trans rfl) rfl ?_
  refine WL.pass ((wanted_of rfl rfl rfl).trans rfl) rfl ?_
  refine WL.pass ((wanted_of rfl rfl rfl).trans rfl) rfl ?_
  refine WL.pass ((wanted_of rfl rfl rfl).trans rfl) rfl ?_
  refine WL.pass ((wanted_of rfl rfl rfl).trans rfl) rfl ?_
  refine WL.pickF (v := .bool false) rfl rfl ?_
  refine WL.move (v := .bool false) rfl ?_
  refine WL.pass ((wanted_of rfl rfl rfl).trans rfl) rfl ?_
  refine WL.pass ((wanted_of rfl rfl rfl).trans rfl) rfl ?_
  refine WL.pass ((wanted_of rfl rfl rfl).trans rfl) rfl ?_
  refine WL.pass ((wanted_of rfl rfl rfl).trans rfl) rfl ?_
  refine WL.pass ((wanted_of rfl rfl rfl).trans rfl) rfl ?_
  refine WL.pickF (v := .bool false) rfl rfl ?_
  refine WL.assign (v := .bool false) rfl ?_
  refine WL.nil ?_
  exact Jk15 false _ _ rfl ((hs.mask []).pick []) hf } }
  {
  refine WL.pass ((wanted_of rfl rfl (bool_tr rfl hc30)).trans rfl) rfl ?_
  refine WL.pass ((wanted_of rfl rfl (bool_tr rfl hc30)).trans rfl) rfl ?_
  refine WL.pass ((wanted_of rfl rfl (bool_tr rfl hc30)).trans rfl) rfl ?_
  refine WL.pass ((wanted_of rfl rfl (bool_tr rfl hc30)).trans rfl) rfl ?_
  refine WL.pass ((wanted_of rfl rfl (bool_tr rfl hc30)).trans rfl) rfl ?_
  refine WL.pickF (v := .bool false) (bool_tr rfl hc30) rfl ?_
  refine WL.move (v := .bool false) rfl ?_
  refine WL.pass ((wanted_of rfl rfl rfl).trans rfl) rfl ?_
  refine WL.pass ((wanted_of rfl rfl rfl).trans rfl) rfl ?_
  refine WL.pass ((wanted_of rfl rfl rfl).trans rfl) rfl ?_
  refine WL.pass ((wanted_of rfl rfl rfl).trans rfl) rfl ?_
  refine WL.pass ((wanted_of rfl rfl rfl).trans rfl) rfl ?_
  refine WL.pickF (v := .bool false) rfl rfl ?_
  refine WL.move (v := .bool false) rfl ?_
  refine WL.pass ((wanted_of rfl rfl rfl).trans rfl) rfl ?_
  refine WL.pass ((wanted_of rfl rfl rfl).trans rfl) rfl ?_
  refine WL.pass ((wanted_of rfl rfl rfl).trans rfl) rfl ?_
  refine WL.pass ((wanted_of rfl rfl rfl).trans rfl) rfl ?_
  refine WL.pass ((wanted_of rfl rfl rfl).trans rfl) rfl ?_
  refine WL.pickF (v := .bool false) rfl rfl ?_
  refine WL.move (v := .bool false) rfl ?_
  refine WL.pass ((wanted_of rfl rfl rfl).trans rfl) rfl ?_
  refine WL.pass ((wanted_of rfl rfl rfl).trans rfl) rfl ?_
  refine WL.pass ((wanted_of rfl rfl rfl).trans rfl) rfl ?_
  refine WL.pass ((wanted_of rfl rfl rfl).trans rfl) rfl ?_
  refine WL.pass ((wanted_of rfl rfl rfl).trans rfl) rfl ?_
  refine WL.pickF (v := .bool false) rfl rfl ?_
  refine WL.move (v := .bool false) rfl ?_
  refine WL.pass ((wanted_of rfl rfl rfl).trans rfl) rfl ?_
  refine WL.pass ((wanted_of rfl rfl rfl).trans rfl) rfl ?_
  refine WL.pass ((wanted_of rfl rfl rfl).trans rfl) rfl ?_
  refine WL.pass ((wanted_of rfl rfl rfl).trans rfl) rfl ?_
  refine WL.pass ((wanted_of rfl rfl rfl).trans rfl) rfl ?_
  refine WL.pickF (v := .bool false) rfl rfl ?_
  refine WL.assign (v := .bool false) rfl ?_
  refine WL.nil ?_
  exact Jk15 false _ _ rfl ((hs.mask []).pick []) hf } }
  {
  refine WL.pass ((wanted_of rfl rfl (bool_tr rfl hc27)).trans rfl) rfl ?_
  refine WL.pass ((wanted_of rfl rfl (bool_tr rfl hc27)).trans rfl) rfl ?_
  refine WL.pass ((wanted_of rfl rfl (bool_tr rfl hc27)).trans rfl) rfl ?_
  refine WL.pass ((wanted_of rfl rfl (bool_tr rfl hc27)).trans rfl) rfl ?_
  refine WL.pass ((wanted_of rfl rfl (bool_tr rfl hc27)).trans rfl) rfl ?_
  refine WL.pickF (v := .bool false) (bool_tr rfl hc27) rfl ?_
  refine WL.move (v := .bool false) rfl ?_
  refine WL.pass ((wanted_of rfl rfl rfl).trans rfl) rfl ?_
  refine WL.pass ((wanted_of rfl rfl rfl).trans rfl) rfl ?_
  refine WL.pass ((wanted_of rfl rfl rfl).trans rfl) rfl ?_
  refine WL.pass ((wanted_of rfl rfl rfl).trans rfl) rfl ?_
  refine WL.pass ((wanted_of rfl rfl rfl).trans rfl) rfl ?_
  refine WL.pickF (v := .bool false) rfl rfl ?_
  refine WL.move (v := .bool false) rfl ?_
  refine WL.pass ((wanted_of rfl rfl rfl).trans rfl) rfl ?_
  refine WL.pass ((wanted_of rfl rfl rfl).trans rfl) rfl ?_
  refine WL.pass ((wanted_of rfl rfl rfl).trans rfl) rfl ?_
  refine WL.pass ((wanted_of rfl rfl rfl).trans rfl) rfl ?_
  refine WL.pass ((wanted_of rfl rfl rfl).trans rfl) rfl ?_
  refine WL.pickF (v := .bool false) rfl rfl ?_
  refine WL.move (v := .bool false) rfl ?_
  refine WL.pass ((wanted_of rfl rfl rfl).trans rfl) rfl ?_
  refine WL.pass ((wanted_of rfl rfl rfl).trans rfl) rfl ?_
  refine WL.pass ((wanted_of rfl rfl rfl).trans rfl) rfl ?_
  refine WL.pass ((wanted_of rfl rfl rfl).trans rfl) rfl ?_
  refine WL.pass ((wanted_of rfl rfl rfl).trans rfl) rfl ?_
  refine WL.pickF (v := .bool false) rfl rfl ?_
  refine WL.move (v := .bool false) rfl ?_
  refine WL.pass ((wanted_of rfl rfl rfl).trans rfl) rfl ?_
  refine WL.pass ((wanted_of rfl rfl rfl).trans rfl) rfl ?_
  refine WL.pass ((wanted_of rfl rfl rfl).trans rfl) rfl ?_
  refine WL.pass ((wanted_of rfl rfl rfl).trans rfl) rfl ?_
  refine WL.pass ((wanted_of rfl rfl rfl).trans rfl) rfl ?_
  refine WL.pickF (v := .bool false) rfl rfl ?_
  refine WL.move (v := .bool false) rfl ?_
  refine WL.pass ((wanted_of rfl rfl rfl).trans rfl) rfl ?_
  refine WL.pass ((wanted_of rfl rfl rfl).trans rfl) rfl ?_
  refine WL.pass ((wanted_of rfl rfl rfl).trans rfl) rfl ?_
  refine WL.pass ((wanted_of rfl rfl rfl).trans rfl) rfl ?_
  refine WL.pass ((wanted_of rfl rfl rfl).trans rfl) rfl ?_
  refine WL.pickF (v := .bool false) rfl rfl ?_
  refine WL.assign (v := .bool false) rfl ?_
  refine WL.nil ?_
  exact Jk15 false _ _ rfl ((hs.mask []).pick []) hf } }
  {
  refine WL.pass ((wanted_of rfl rfl (bool_tr rfl hc24)).trans rfl) rfl ?_
  refine WL.pass ((wanted_of rfl rfl (bool_tr rfl hc24)).trans rfl) rfl ?_
  refine WL.pass ((wanted_of rfl rfl (bool_tr rfl hc24)).trans rfl) rfl ?_
  refine WL.pass ((wanted_of rfl rfl (bool_tr rfl hc24)).trans rfl) rfl ?_
  refine WL.pass ((wanted_of rfl rfl (bool_tr rfl hc24)).trans rfl) rfl ?_
  refine WL.pickF (v := .bool false) (bool_tr rfl hc24) rfl ?_
  refine WL.move (v := .bool false) rfl ?_
  refine WL.pass ((wanted_of rfl rfl rfl).trans rfl) rfl ?_
  refine WL.pass ((wanted_of rfl rfl rfl).trans rfl) rfl ?_
  refine WL.pass ((wanted_of rfl rfl rfl).trans rfl) rfl ?_
  refine WL.pass ((wanted_of rfl rfl rfl).trans rfl) rfl ?_
  refine WL.pass ((wanted_of rfl rfl rfl).trans rfl) rfl ?_
  refine WL.pickF (v := .bool false) rfl rfl ?_
  refine WL.move (v := .bool false) rfl ?_
  refine WL.pass ((wanted_of rfl rfl rfl).trans rfl) rfl ?_
  refine WL.pass ((wanted_of rfl rfl rfl).trans rfl) rfl ?_
  refine WL.pass ((wanted_of rfl rfl rfl).trans rfl) rfl ?_
  refine WL.pass ((wanted_of rfl rfl rfl).trans rfl) rfl ?_
  refine WL.pass ((wanted_of rfl rfl rfl).trans rfl) rfl ?_
  refine WL.pickF (v := .bool false) rfl rfl ?_
  refine WL.move (v := .bool false) rfl ?_
  refine WL.pass ((wanted_of rfl rfl rfl).trans rfl) rfl ?_
  refine WL.pass ((wanted_of rfl rfl rfl).trans rfl) rfl ?_
  refine WL.pass ((wanted_of rfl rfl rfl).trans rfl) rfl ?_
  refine WL.pass ((wanted_of rfl rfl rfl).trans rfl) rfl ?_
  refine WL.pass ((wanted_of rfl rfl rfl).trans rfl) rfl ?_
  refine WL.pickF (v := .bool false) rfl rfl ?_
  refine WL.move (v := .bool false) rfl ?_
  refine WL.pass ((wanted_of rfl rfl rfl).trans rfl) rfl ?_
  refine WL.pass ((wanted_of rfl rfl rfl).trans rfl) rfl ?_
  refine WL.pass ((wanted_of rfl rfl rfl).trans rfl) rfl ?_
  refine WL.pass ((wanted_of rfl rfl rfl).trans rfl) rfl ?_
  refine WL.pass ((wanted_of rfl rfl rfl).trans rfl) rfl ?_
  refine WL.pickF (v := .bool false) rfl rfl ?_
  refine WL.move (v := .bool false) rfl ?_
  refine WL.pass ((wanted_of rfl rfl rfl).trans rfl) rfl ?_
  refine WL.pass ((wanted_of rfl rfl rfl).trans rfl) rfl ?_
  refine WL.pass ((wanted_of rfl rfl rfl).trans rfl) rfl ?_
  refine WL.pass ((wanted_of rfl rfl rfl).trans rfl) rfl ?_
  refine WL.pass ((wanted_of rfl rfl rfl).trans rfl) rfl ?_
  refine WL.pickF (v := .bool false) rfl rfl ?_
  refine WL.move (v := .bool false) rfl ?_
  refine WL.pass ((wanted_of rfl rfl rfl).trans rfl) rfl ?_
  refine WL.pass ((wanted_of rfl rfl rfl).trans rfl) rfl ?_
  refine WL.pass ((wanted_of rfl rfl rfl).trans rfl) rfl ?_
  refine WL.pass ((wanted_of rfl rfl rfl).trans rfl) rfl ?_
  refine WL.pass ((wanted_of rfl rfl rfl).trans rfl) rfl ?_
  refine WL.pickF (v := .bool false) rfl rfl ?_
  refine WL.assign (v := .bool false) rfl ?_
  refine WL.nil ?_
  exact Jk15 false _ _ rfl ((hs.mask []).pick []) hf } }
  {
  refine WL.pass ((wanted_of rfl rfl (bool_tr rfl hc21)).trans rfl) rfl ?_
  refine WL.pass ((wanted_of rfl rfl (bool_tr rfl hc21)).trans rfl) rfl ?_
  refine WL.pass ((wanted_of rfl rfl (bool_tr rfl hc21)).trans rfl) rfl ?_
  refine WL.pass ((wanted_of rfl rfl (bool_tr rfl hc21)).trans rfl) rfl ?_
  refine WL.pass ((wanted_of rfl rfl (bool_tr rfl hc21)).trans rfl) rfl ?_
  refine WL.pickF (v := .bool false) (bool_tr rfl hc21) rfl ?_
  refine WL.move (v := .bool false) rfl ?_
  refine WL.pass ((wanted_of rfl rfl rfl).trans rfl) rfl ?_
  refine WL.pass ((wanted_of rfl rfl rfl).trans rfl) rfl ?_
  refine WL.pass ((wanted_of rfl rfl rfl).trans rfl) rfl ?_
  refine WL.pass ((wanted_of rfl rfl rfl).trans rfl) rfl ?_
  refine WL.pass ((wanted_of rfl rfl rfl).trans rfl) rfl ?_
  refine WL.pickF (v := .bool false) rfl rfl ?_
  refine WL.move (v := .bool false) rfl ?_
  refine WL.pass ((wanted_of rfl rfl rfl).trans rfl) rfl ?_
  refine WL.pass ((wanted_of rfl rfl rfl).trans rfl) rfl ?_
  refine WL.pass ((wanted_of rfl rfl rfl).trans rfl) rfl ?_
  refine WL.pass ((wanted_of rfl rfl rfl).trans rfl) rfl ?_
  refine WL.pass ((wanted_of rfl rfl rfl).trans rfl) rfl ?_
  refine WL.pickF (v := .bool false) rfl rfl ?_
  refine WL.move (v := .bool false) rfl ?_
  refine WL.pass ((wanted_of rfl rfl rfl).trans rfl) rfl ?_
  refine WL.pass ((wanted_of rfl rfl rfl).trans rfl) rfl ?_
  refine WL.pass ((wanted_of rfl rfl rfl).trans rfl) rfl ?_
  refine WL.pass ((wanted_of rfl rfl rfl).trans rfl) rfl ?_
  refine WL.pass ((wanted_of rfl rfl rfl).trans rfl) rfl ?_
  refine WL.pickF (v := .bool false) rfl rfl ?_
  refine WL.move (v := .bool false) rfl ?_
  refine WL.pass ((wanted_of rfl rfl rfl).trans rfl) rfl ?_
  refine WL.pass ((wanted_of rfl rfl rfl).trans rfl) rfl ?_
  refine WL.pass ((wanted_of rfl rfl rfl).trans rfl) rfl ?_
  refine WL.pass ((wanted_of rfl rfl rfl).trans rfl) rfl ?_
  refine WL.pass ((wanted_of rfl rfl rfl).trans rfl) rfl ?_
  refine WL.pickF (v := .bool false) rfl rfl ?_
  refine WL.move (v := .bool false) rfl ?_
  refine WL.pass ((wanted_of rfl rfl rfl).trans rfl) rfl ?_
  refine WL.pass ((wanted_of rfl rfl rfl).trans rfl) rfl ?_
  refine WL.pass ((wanted_of rfl rfl rfl).trans rfl) rfl ?_
  refine WL.pass ((wanted_of rfl rfl rfl).trans rfl) rfl ?_
  refine WL.pass ((wanted_of rfl rfl rfl).trans rfl) rfl ?_
  refine WL.pickF (v := .bool false) rfl rfl ?_
  refine WL.move (v := .bool false) rfl ?_
  refine WL.pass ((wanted_of rfl rfl rfl).trans rfl) rfl ?_
  refine WL.pass ((wanted_of rfl rfl rfl).trans rfl) rfl ?_
  refine WL.pass ((wanted_of rfl rfl rfl).trans rfl) rfl ?_
  refine WL.pass ((wanted_of rfl rfl rfl).trans rfl) rfl ?_
  refine WL.pass ((wanted_of rfl rfl rfl).trans rfl) rfl ?_
  refine WL.pickF (v := .bool false) rfl rfl ?_
  refine WL.move (v := .bool false) rfl ?_
  refine WL.pass ((wanted_of rfl rfl rfl).trans rfl) rfl ?_
  refine WL.pass ((wanted_of rfl rfl rfl).trans rfl) rfl ?_
  refine WL.pass ((wanted_of rfl rfl rfl).trans rfl) rfl ?_
  refine WL.pass ((wanted_of rfl rfl rfl).trans rfl) rfl ?_
  refine WL.pass ((wanted_of rfl rfl rfl).trans rfl) rfl ?_
  refine WL.pickF (v := .bool false) rfl rfl ?_
  refine WL.assign (v := .bool false) rfl ?_
  refine WL.nil ?_
  exact Jk15 false _ _ rfl ((hs.mask []).pick []) hf } }
  {
  refine WL.pass ((wanted_of rfl rfl (bool_tr rfl hc18)).trans rfl) rfl ?_
  refine WL.pass ((wanted_of rfl rfl (bool_tr rfl hc18)).trans rfl) rfl ?_
  refine WL.pass ((wanted_of rfl rfl (bool_tr rfl hc18)).trans rfl) rfl ?_
  refine WL.pass ((wanted_of rfl rfl (bool_tr rfl hc18)).trans rfl) rfl ?_
  refine WL.pass ((wanted_of rfl rfl (bool_tr rfl hc18)).trans rfl) rfl ?_
  refine WL.pickF (v := .bool false) (bool_tr rfl hc18) rfl ?_
  refine WL.move (v := .bool false) rfl ?_
  refine WL.pass ((wanted_of rfl rfl rfl).trans rfl) rfl ?_
  refine WL.pass ((wanted_of rfl rfl rfl).trans rfl) rfl ?_
  refine WL.pass ((wanted_of rfl rfl rfl).trans rfl) rfl ?_
  refine WL.pass ((wanted_of rfl rfl rfl).trans rfl) rfl ?_
  refine WL.pass ((wanted_of rfl rfl rfl).trans rfl) rfl ?_
  refine WL.pickF (v := .bool false) rfl rfl ?_
  refine WL.move (v := .bool false) rfl ?_
  refine WL.pass ((wanted_of rfl rfl rfl).trans rfl) rfl ?_
  refine WL.pass ((wanted_of rfl rfl rfl).trans rfl) rfl ?_
  refine WL.pass ((wanted_of rfl rfl rfl).trans rfl) rfl ?_
  refine WL.pass ((wanted_of rfl rfl rfl).trans rfl) rfl ?_
  refine WL.pass ((wanted_of rfl rfl rfl).trans rfl) rfl ?_
  refine WL.pickF (v := .bool false) rfl rfl ?_
  refine WL.move (v := .bool false) rfl ?_
  refine WL.pass ((wanted_of rfl rfl rfl).trans rfl) rfl ?_
  refine WL.pass ((wanted_of rfl rfl rfl).trans rfl) rfl ?_
  refine WL.pass ((wanted_of rfl rfl rfl).trans rfl) rfl ?_
  refine WL.pass ((wanted_of rfl rfl rfl).trans rfl) rfl ?_
  refine WL.pass ((wanted_of rfl rfl rfl).trans rfl) rfl ?_
  refine WL.pickF (v := .bool false) rfl rfl ?_
  refine WL.move (v := .bool false) rfl ?_
  refine WL.pass ((wanted_of rfl rfl rfl).trans rfl) rfl ?_
  refine WL.pass ((wanted_of rfl rfl rfl).trans rfl) rfl ?_
  refine WL.pass ((wanted_of rfl rfl rfl).trans rfl) rfl ?_
  refine WL.pass ((wanted_of rfl rfl rfl).trans rfl) rfl ?_
  refine WL.pass ((wanted_of rfl rfl rfl).trans rfl) rfl ?_
  refine WL.pickF (v := .bool false) rfl rfl ?_
  refine WL.move (v := .bool false) rfl ?_
  refine WL.pass ((wanted_of rfl rfl rfl).trans rfl) rfl ?_
  refine WL.pass ((wanted_of rfl rfl rfl).trans rfl) rfl ?_
  refine WL.pass ((wanted_of rfl rfl rfl).trans rfl) rfl ?_
  refine WL.pass ((wanted_of rfl rfl rfl).trans rfl) rfl ?_
  refine WL.pass ((wanted_of rfl rfl rfl).trans rfl) rfl ?_
  refine WL.pickF (v := .bool false) rfl rfl ?_
  refine WL.move (v := .bool false) rfl ?_
  refine WL.pass ((wanted_of rfl rfl rfl).trans rfl) rfl ?_
  refine WL.pass ((wanted_of rfl rfl rfl).trans rfl) rfl ?_
  refine WL.pass ((wanted_of rfl rfl rfl).trans rfl) rfl ?_
  refine WL.pass ((wanted_of rfl rfl rfl).trans rfl) rfl ?_
  refine WL.pass ((wanted_of rfl rfl rfl).trans rfl) rfl ?_
  refine WL.pickF (v := .bool false) rfl rfl ?_
  refine WL.move (v := .bool false) rfl ?_
  refine WL.pass ((wanted_of rfl rfl rfl).trans rfl) rfl ?_
  refine WL.pass ((wanted_of rfl rfl rfl).trans rfl) rfl ?_
  refine WL.pass ((wanted_of rfl rfl rfl).trans rfl) rfl ?_
  refine WL.pass ((wanted_of rfl rfl rfl).trans rfl) rfl ?_
  refine WL.pass ((wanted_of rfl rfl rfl).trans rfl) rfl ?_
  refine WL.pickF (v := .bool false) rfl rfl ?_
  refine WL.move (v := .bool false) rfl ?_
  refine WL.pass ((wanted_of rfl rfl rfl).trans rfl) rfl ?_
  refine WL.pass ((wanted_of rfl rfl rfl).trans rfl) rfl ?_
  refine WL.pass ((wanted_of rfl rfl rfl).trans rfl) rfl ?_
  refine WL.pass ((wanted_of rfl rfl rfl).trans rfl) rfl ?_
  refine WL.pass ((wanted_of rfl rfl rfl).trans rfl) rfl ?_
  refine WL.pickF (v := .bool false) rfl rfl ?_
  refine WL.assign (v := .bool false) rfl ?_
  refine WL.nil ?_
  exact Jk15 false _ _ rfl ((hs.mask []).pick []) hf }
theorem history_SameValues.calls {ok : Nat → Prop} {w0 : World} {x1 : List history_Value} {x4 : List history_Value} {a2 : Option Addr} {c3 : Nat} {a5 : Option Addr} {c6 : Nat} {r : Bool} (hf : history_SameValues x1 x4 = some r) (i0 : (vl (tSlice t_history_Value) x1 (.slice a2 x1.length c3)).holds ok w0) (i1 : (vl (tSlice t_history_Value) x4 (.slice a5 x4.length c6)).holds ok w0) :
    Calls Try.prog 25 #[.slice a2 x1.length c3, .slice a5 x4.length c6] w0 fun e w' => ∃ v, e = .returned v ∧ ∃ y : Unit, v = .bool r ∧ St ok (bz w0) w' [] [] := by
  unfold history_SameValues at hf
  refine calls_of_W (fn := Try.f25) (N := 8) Try.func25 rfl Try.ntmps25 rfl ?_
  have hs : St ok (bz w0) w0 [vl (tSlice t_history_Value) x1 (.slice a2 x1.length c3), vl (tSlice t_history_Value) x4 (.slice a5 x4.length c6)] [] := St.init (All.cons i0 (All.cons i1 All.nil))
  clear i0 i1
  refine W.seqK fun K7 hK7 => ?_
  refine W.region ?_
  refine WL.assign (v := .bool false) rfl ?_
  refine WL.nil ?_
  refine hK7 _ _ ?_
  refine W.seqK fun K8 hK8 => ?_
  refine W.region ?_
  refine WL.move (v := .slice a2 x1.length c3) rfl ?_
  refine WL.move (v := .slice a5 x4.length c6) rfl ?_
  have hs := hs.add (it := vl (tFun Try.prog (argK2 t_history_Value t_history_Value) (fun r : Bool => .bool r)) (fun p : history_Value × history_Value => history_sameValue p.1 p.2) (.func (.func 46) #[] #[])) fun ok hA => tFun_V.2 ⟨46, _, rfl, FN46, fun ok' w' hm p r vs hF har => by
    obtain ⟨u1, u2, rfl, h1, h2⟩ := har
    exact (history_sameValue.calls (x1 := p.1) (x5 := p.2) hF h1 h2).mono (by rintro e w2 ⟨v, h1, y, h2, h3⟩; exact ⟨v, h1, h2, h3⟩)⟩
  obtain ⟨x9, hxx9, hf⟩ := bindE hf
  refine WL.call (vs := [.slice a2 x1.length c3, .slice a5 x4.length c6, (.func (.func 46) #[] #[])]) hs FN45 ⟨rfl, ⟨rfl, ⟨rfl, trivial⟩⟩⟩ (fun ok hA => slices_EqualFunc_Value.calls (x1 := x1) (x4 := x4) (x7 := (fun p : history_Value × history_Value => history_sameValue p.1 p.2)) hxx9 (hA.get 1 rfl) (hA.get 2 rfl) (hA.get 0 rfl)) ?_
  rintro _ w hs
  refine WL.assign (v := .bool x9) rfl ?_
  refine WL.nil ?_
  refine hK8 _ _ ?_
  refine W.ret ?_
  have hr := Option.some.inj hf; subst hr
  exact ⟨_, resOk_one rfl rfl, (), rfl, (hs.mask []).pick []⟩
theorem eslaw38_HistorySame.calls {ok : Nat → Prop} {w0 : World} {x1 : List history_Value} {x4 : List history_Value} {a2 : Option Addr} {c3 : Nat} {a5 : Option Addr} {c6 : Nat} {r : Bool} (hf : eslaw38_HistorySame x1 x4 = some r) (i0 : (vl (tSlice t_history_Value) x1 (.slice a2 x1.length c3)).holds ok w0) (i1 : (vl (tSlice t_history_Value) x4 (.slice a5 x4.length c6)).holds ok w0) :
    Calls Try.prog 8 #[.slice a2 x1.length c3, .slice a5 x4.length c6] w0 fun e w' => ∃ v, e = .returned v ∧ ∃ y : Unit, v = .bool r ∧ St ok (bz w0) w' [] [] := by
  unfold eslaw38_HistorySame at hf
  refine calls_of_W (fn := Try.f8) (N := 42) Try.func8 rfl Try.ntmps8 rfl ?_
  have hs : St ok (bz w0) w0 [vl (tSlice t_history_Value) x1 (.slice a2 x1.length c3), vl (tSlice t_history_Value) x4 (.slice a5 x4.length c6)] [] := St.init (All.cons i0 (All.cons i1 All.nil))
  clear i0 i1
  refine W.seqK fun K7 hK7 => ?_
  refine W.region ?_
  refine WL.assign (v := .bool false) rfl ?_
  refine WL.nil ?_
  refine hK7 _ _ ?_
  refine W.seqK fun K8 hK8 => ?_
  refine W.seqK fun K9 hK9 => ?_
  have Jk12 : ∀ (x11 : Bool) (ρ : Env) (w : World), ρ 0 = .slice a2 x1.length c3 → ρ 1 = .slice a5 x4.length c6 → ρ 13 = .bool x11 → St ok (bz w0) w [vl (tSlice t_history_Value) x1 (.slice a2 x1.length c3), vl (tSlice t_history_Value) x4 (.slice a5 x4.length c6)] [] → eslaw38_HistorySame.j2 x1 x4 x11 = some r → K9 ρ w := by
    intro x11 ρ w h10_0 h10_1 h10_13 hs hf
    refine hK9 _ _ ?_
    unfold eslaw38_HistorySame.j2 at hf
    rcases iteE hf with ⟨hc13, hf⟩ | ⟨hc13, hf⟩
    {
    refine W.cond_true (bool_tr h10_13 hc13) ?_
    refine W.seqK fun K14 hK14 => ?_
    refine W.region ?_
    obtain ⟨x15, hxx15, hf⟩ := bindE hf
    refine WL.call (vs := []) hs FN10 trivial (fun ok hA => eslaw38_awake.calls hxx15) ?_
    rintro _ w hs
    refine WL.assign (v := .bool x15) rfl ?_
    refine WL.nil ?_
    refine hK14 _ _ ?_
    refine W.ret ?_
    have hr := Option.some.inj hf; subst hr
    exact ⟨_, resOk_one rfl rfl, (), rfl, (hs.mask []).pick []⟩ }
    {
    refine W.cond_false (bool_tr h10_13 hc13) ?_
    refine W.skip ?_
    refine hK8 _ _ ?_
    refine W.seqK fun K16 hK16 => ?_
    refine W.region ?_
    refine WL.buildSlice0 hs UN31 TI68 (fun a17 w hs => ?_)
    refine WL.move (v := .slice a2 x1.length c3) h10_0 ?_
    have hs := hs.ownEmpty t_history_Value 68 a17
    obtain ⟨x18, hxx18, hf⟩ := bindE hf
    obtain ⟨hbx18, hex18⟩ := appE hxx18
    refine WL.appendS (zs := x18) hs 0 rfl 0 rfl UN31 UN31 EI68 rfl rfl hbx18 (by omega) hex18 (fun v19 w hs => ?_)
    obtain ⟨a20, n22, c21, rfl⟩ := hs.ownv3 0 rfl
    refine WL.assign (v := .slice a20 n22 c21) rfl ?_
    refine WL.nil ?_
    refine hK16 _ _ ?_
    refine W.seqK fun K23 hK23 => ?_
    have Jk26 : ∀ (x25 : Bool) (ρ : Env) (w : World), ρ 4 = .bool x25 → St ok (bz w0) w [] [] → eslaw38_HistorySame.j1 x25 = some r → K23 ρ w := by
      intro x25 ρ w h24_4 hs hf
      refine hK23 _ _ ?_
      unfold eslaw38_HistorySame.j1 at hf
      refine W.ret ?_
      have hr := Option.some.inj hf; subst hr
      exact ⟨_, resOk_one rfl h24_4, (), rfl, (hs.mask []).pick []⟩
    refine W.region ?_
    refine WL.move (v := .slice a2 x1.length c3) h10_0 ?_
    refine WL.move (v := .slice a5 x4.length c6) h10_1 ?_
    obtain ⟨x27, hxx27, hf⟩ := bindE hf
    refine WL.call (vs := [.slice a2 x1.length c3, .slice a5 x4.length c6]) hs FN25 ⟨rfl, ⟨rfl, trivial⟩⟩ (fun ok hA => history_SameValues.calls (x1 := x1) (x4 := x4) hxx27 (hA.get 0 rfl) (hA.get 1 rfl)) ?_
    rintro _ w hs
    refine WL.move (v := .slice a2 x1.length c3) h10_0 ?_
    refine WL.move (v := .slice a5 x4.length c6) h10_1 ?_
    obtain ⟨x28, hxx28, hf⟩ := bindE hf
    refine WL.call (vs := [.slice a2 x1.length c3, .slice a5 x4.length c6]) hs FN26 ⟨rfl, ⟨rfl, trivial⟩⟩ (fun ok hA => esref39_SameValues.calls (x1 := x1) (x4 := x4) hxx28 (hA.get 0 rfl) (hA.get 1 rfl)) ?_
    rintro _ w hs
    refine WL.eqB UN4 rfl rfl ?_
    refine WL.move (v := .bool (x27 == x28)) rfl ?_
    rcases iteE hf with ⟨hc29, hf⟩ | ⟨hc29, hf⟩
    {
    refine WL.move (v := .slice a2 x1.length c3) h10_0 ?_ (hg := (wanted_of rfl rfl (bool_tr rfl hc29)).trans rfl)
    refine WL.move (v := .slice a20 n22 c21) rfl ?_ (hg := (wanted_of rfl rfl (bool_tr rfl hc29)).trans rfl)
    obtain ⟨x30, hxx30, hf⟩ := bindE hf
    refine WL.callL (vs := [.slice a2 x1.length c3, .slice a20 x18.length c21]) hs FN25 ⟨rfl, ⟨(Eq.trans rfl (sl_len (hs.ownLen 0 rfl))), trivial⟩⟩ (history_SameValues.calls (x1 := x1) (x4 := x18) hxx30 (hs.allT.get 0 rfl) (hs.ownN 0 rfl)) ?_ (hg := (wanted_of rfl rfl (bool_tr rfl hc29)).trans rfl)
    rintro _ w hs
    refine WL.pickT (v := .bool x30) (bool_tr rfl hc29) rfl ?_
    refine WL.move (v := .bool x30) rfl ?_
    rcases iteE hf with ⟨hc31, hf⟩ | ⟨hc31, hf⟩
    {
    refine WL.move (v := .slice a5 x4.length c6) h10_1 ?_ (hg := (wanted_of rfl rfl (bool_tr rfl hc31)).trans rfl)
    refine WL.move (v := .slice a2 x1.length c3) h10_0 ?_ (hg := (wanted_of rfl rfl (bool_tr rfl hc31)).trans rfl)
    obtain ⟨x32, hxx32, hf⟩ := bindE hf
    refine WL.call (vs := [.slice a5 x4.length c6, .slice a2 x1.length c3]) hs FN25 ⟨rfl, ⟨rfl, trivial⟩⟩ (fun ok hA => history_SameValues.calls (x1 := x4) (x4 := x1) hxx32 (hA.get 1 rfl) (hA.get 0 rfl)) ?_ (hg := (wanted_of rfl rfl (bool_tr rfl hc31)).trans rfl)
    rintro _ w hs
    refine WL.move (v := .slice a2 x1.length c3) h10_0 ?_ (hg := (wanted_of rfl rfl (bool_tr rfl hc31)).trans rfl)
    refine WL.move (v := .slice a5 x4.length c6) h10_1 ?_ (hg := (wanted_of rfl rfl (bool_tr rfl hc31)).trans rfl)
    obtain ⟨x33, hxx33, hf⟩ := bindE hf
    refine WL.call (vs := [.slice a2 x1.length c3, .slice a5 x4.length c6]) hs FN25 ⟨rfl, ⟨rfl, trivial⟩⟩ (fun ok hA => history_SameValues.calls (x1 := x1) (x4 := x4) hxx33 (hA.get 0 rfl) (hA.get 1 rfl)) ?_ (hg := (wanted_of rfl rfl (bool_tr rfl hc31)).trans rfl)
    rintro _ w hs
    refine WL.eqB UN4 rfl rfl ?_ (hg := (wanted_of rfl rfl (bool_tr rfl hc31)).trans rfl)
    refine WL.pickT (v := .bool (x32 == x33)) (bool_tr rfl hc31) rfl ?_
    refine WL.move (v := .bool (x32 == x33)) rfl ?_
    rcases iteE hf with ⟨hc34, hf⟩ | ⟨hc34, hf⟩
    {
    obtain ⟨x35, hxx35, hf⟩ := bindE hf
    refine WL.call (vs := []) hs FN10 trivial (fun ok hA => eslaw38_awake.calls hxx35) ?_ (hg := (wanted_of rfl rfl (bool_tr rfl hc34)).trans rfl)
    rintro _ w hs
    refine WL.pickT (v := .bool x35) (bool_tr rfl hc34) rfl ?_
    refine WL.assign (v := .bool x35) rfl ?_
    refine WL.nil ?_
    exact Jk26 x35 _ _ rfl ((hs.mask []).pick []) hf }
    {
    refine WL.pass ((wanted_of rfl rfl (bool_tr rfl hc34)).trans rfl) rfl ?_
    refine WL.pickF (v := .bool false) (bool_tr rfl hc34) rfl ?_
    refine WL.assign (v := .bool false) rfl ?_
    refine WL.nil ?_
    exact Jk26 false _ _ rfl ((hs.mask []).pick []) hf } }
    {
    refine WL.pass ((wanted_of rfl rfl (bool_tr rfl hc31)).trans rfl) rfl ?_
    refine WL.pass ((wanted_of rfl rfl (bool_tr rfl hc31)).trans rfl) rfl ?_
    refine WL.pass ((wanted_of rfl rfl (bool_tr rfl hc31)).trans rfl) rfl ?_
    refine WL.pass ((wanted_of rfl rfl (bool_tr rfl hc31)).trans rfl) rfl ?_
    refine WL.pass ((wanted_of rfl rfl (bool_tr rfl hc31)).trans rfl) rfl ?_
    refine WL.pass ((wanted_of rfl rfl (bool_tr rfl hc31)).trans rfl) rfl ?_
    refine WL.pass ((wanted_of rfl rfl (bool_tr rfl hc31)).trans rfl) rfl ?_
    refine WL.pickF (v := .bool false) (bool_tr rfl hc31) rfl ?_
    refine WL.move (v := .bool false) rfl ?_
    refine WL.pass ((wanted_of rfl rfl rfl).trans rfl) rfl ?_
    refine WL.pickF (v := .bool false) rfl rfl ?_
    refine WL.assign (v := .bool false) rfl ?_
    refine WL.nil ?_
    exact Jk26 false _ _ rfl ((hs.mask []).pick []) hf } }
    {
    refine WL.pass ((wanted_of rfl rfl (bool_tr rfl hc29)).trans rfl) rfl ?_
    refine WL.pass ((wanted_of rfl rfl (bool_tr rfl hc29)).trans rfl) rfl ?_
    refine WL.pass ((wanted_of rfl rfl (bool_tr rfl hc29)).trans rfl) rfl ?_
    refine WL.pickF (v := .bool false) (bool_tr rfl hc29) rfl ?_
    refine WL.move (v := .bool false) rfl ?_
    refine WL.pass ((wanted_of rfl rfl rfl).trans rfl) rfl ?_
    refine WL.pass ((wanted_of rfl rfl rfl).trans rfl) rfl ?_
    refine WL.pass ((wanted_of rfl rfl rfl).trans rfl) rfl ?_
    refine WL.pass ((wanted_of rfl rfl rfl).trans rfl) rfl ?_
    refine WL.pass ((wanted_of rfl rfl rfl).trans rfl) rfl ?_
    refine WL.pass ((wanted_of rfl rfl rfl).trans rfl) rfl ?_
    refine WL.pass ((wanted_of rfl rfl rfl).trans rfl) rfl ?_
    refine WL.pickF (v := .bool false) rfl rfl ?_
    refine WL.move (v := .bool false) rfl ?_
    refine WL.pass ((wanted_of rfl rfl rfl).trans rfl) rfl ?_
    refine WL.pickF (v := .bool false) rfl rfl ?_
    refine WL.assign (v := .bool false) rfl ?_
    refine WL.nil ?_
    exact Jk26 false _ _ rfl ((hs.mask []).pick []) hf } }
  refine W.region ?_
  refine WL.move (v := .slice a2 x1.length c3) rfl ?_
  refine WL.len (v := .slice a2 x1.length c3) rfl (len_slice UN31) ?_
  refine WL.bin (v := .bool (decide (20 < (x1.length : Int)))) rfl rfl (ib_gtr _ _ _) ?_
  refine WL.move (v := .bool (decide (20 < (x1.length : Int)))) rfl ?_
  rcases iteE hf with ⟨hc36, hf⟩ | ⟨hc36, hf⟩
  {
  refine WL.pass ((wanted_of rfl rfl (bool_tr rfl hc36)).trans rfl) rfl ?_
  refine WL.pass ((wanted_of rfl rfl (bool_tr rfl hc36)).trans rfl) rfl ?_
  refine WL.pass ((wanted_of rfl rfl (bool_tr rfl hc36)).trans rfl) rfl ?_
  refine WL.pickT (v := .bool true) (bool_tr rfl hc36) rfl ?_
  refine WL.nil ?_
  exact Jk12 true _ _ rfl rfl rfl ((hs.mask []).pick [0, 1]) hf }
  {
  refine WL.move (v := .slice a5 x4.length c6) rfl ?_ (hg := (wanted_of rfl rfl (bool_tr rfl hc36)).trans rfl)
  refine WL.len (v := .slice a5 x4.length c6) rfl (len_slice UN31) ?_ (hg := (wanted_of rfl rfl (bool_tr rfl hc36)).trans rfl)
  refine WL.bin (v := .bool (decide (20 < (x4.length : Int)))) rfl rfl (ib_gtr _ _ _) ?_ (hg := (wanted_of rfl rfl (bool_tr rfl hc36)).trans rfl)
  refine WL.pickF (v := .bool (decide (20 < (x4.length : Int)))) (bool_tr rfl hc36) rfl ?_
  refine WL.nil ?_
  exact Jk12 (decide (20 < (x4.length : Int))) _ _ rfl rfl rfl ((hs.mask []).pick [0, 1]) hf }
end Go.Proofs.Ytbbeobiampbddaa
set_option linter.unusedVariables false
set_option linter.unusedSimpArgs false
namespace Go.Proofs.Ytbbeobiampbddaa
open Go Go.RowKit Go.Proofs.YtbbeobiampbddaaL
set_option maxRecDepth 100000
set_option maxHeartbeats 4000000
theorem eslaw00_Index.calls {ok : Nat → Prop} {w0 : World} {x1 : Int} {x2 : Int}  {r : Int} (hf : eslaw00_Index x1 x2 = some r)  :
    Calls Try.prog 14 #[.int .i64 x1, .int .i64 x2] w0 fun e w' => ∃ v, e = .returned v ∧ ∃ y : Unit, v = .int .i64 r ∧ St ok (bz w0) w' [] [] := by
  unfold eslaw00_Index at hf
  refine calls_of_W (fn := Try.f14) (N := 14) Try.func14 rfl Try.ntmps14 rfl ?_
  have hs : St ok (bz w0) w0 [] [] := St.init All.nil
  refine W.seqK fun K3 hK3 => ?_
  refine W.region ?_
  refine WL.assign (v := .int .i64 0) rfl ?_
  refine WL.nil ?_
  refine hK3 _ _ ?_
  refine W.seqK fun K4 hK4 => ?_
  refine W.seqK fun K5 hK5 => ?_
  refine W.region ?_
  refine WL.move (v := .int .i64 x2) rfl ?_
  refine WL.bin (v := .bool (decide (x2 < 1))) rfl rfl (ib_lss _ _ _) ?_
  refine WL.nil ?_
  refine hK5 _ _ ?_
  rcases iteE hf with ⟨hc6, hf⟩ | ⟨hc6, hf⟩
  {
  refine W.cond_true (bool_tr rfl hc6) ?_
  refine W.seqK fun K7 hK7 => ?_
  refine W.region ?_
  refine WL.assign (v := .int .i64 0) rfl ?_
  refine WL.nil ?_
  refine hK7 _ _ ?_
  refine W.ret ?_
  have hr := Option.some.inj hf; subst hr
  exact ⟨_, resOk_one rfl rfl, (), rfl, (hs.mask []).pick []⟩ }
  {
  refine W.cond_false (bool_tr rfl hc6) ?_
  refine W.skip ?_
  refine hK4 _ _ ?_
  refine W.seqK fun K8 hK8 => ?_
  refine W.region ?_
  refine WL.move (v := .int .i64 x1) rfl ?_
  refine WL.move (v := .int .i64 x2) rfl ?_
  obtain ⟨hn9, hf⟩ := guardE hf
  refine WL.bin (v := .int .i64 (Int.tmod x1 x2)) rfl rfl (ib_rem _ _ _ hn9) ?_
  refine WL.move (v := .int .i64 x2) rfl ?_
  obtain ⟨x10, ex10, hf⟩ := letE hf
  refine WL.bin (v := .int .i64 x10) rfl rfl (ib_as ex10 (ib_add _ _ _)) ?_
  refine WL.move (v := .int .i64 x2) rfl ?_
  obtain ⟨hn11, hf⟩ := guardE hf
  refine WL.bin (v := .int .i64 (Int.tmod x10 x2)) rfl rfl (ib_rem _ _ _ hn11) ?_
  refine WL.assign (v := .int .i64 (Int.tmod x10 x2)) rfl ?_
  refine WL.nil ?_
  refine hK8 _ _ ?_
  refine W.ret ?_
  have hr := Option.some.inj hf; subst hr
  exact ⟨_, resOk_one rfl rfl, (), rfl, (hs.mask []).pick []⟩ }
theorem eslaw00_Digit.calls {ok : Nat → Prop} {w0 : World} {x1 : Int} {x2 : Int} {x3 : Int}  {r : Int} (hf : eslaw00_Digit x1 x2 x3 = some r)  :
    Calls Try.prog 39 #[.int .i64 x1, .int .i64 x2, .int .i64 x3] w0 fun e w' => ∃ v, e = .returned v ∧ ∃ y : Unit, v = .int .i64 r ∧ St ok (bz w0) w' [] [] := by
  unfold eslaw00_Digit at hf
  refine calls_of_W (fn := Try.f39) (N := 22) Try.func39 rfl Try.ntmps39 rfl ?_
  have hs : St ok (bz w0) w0 [] [] := St.init All.nil
  refine W.seqK fun K4 hK4 => ?_
  refine W.region ?_
  refine WL.assign (v := .int .i64 0) rfl ?_
  refine WL.nil ?_
  refine hK4 _ _ ?_
  refine W.seqK fun K5 hK5 => ?_
  refine W.region ?_
  refine WL.move (v := .int .i64 x1) rfl ?_
  obtain ⟨x6, hxx6, hf⟩ := bindE hf
  refine WL.call (vs := [.int .i64 x1, .int .i64 1099511627776]) hs FN14 ⟨rfl, ⟨rfl, trivial⟩⟩ (fun ok hA => eslaw00_Index.calls (x1 := x1) (x2 := 1099511627776) hxx6) ?_
  rintro _ w hs
  refine WL.assign (v := .int .i64 x6) rfl ?_
  refine WL.nil ?_
  refine hK5 _ _ ?_
  refine W.seqK fun K7 hK7 => ?_
  have Jk10 : ∀ (x9 : Int) (ρ : Env) (w : World), ρ 1 = .int .i64 x2 → ρ 7 = .int .i64 x9 → St ok (bz w0) w [] [] → eslaw00_Digit.j1 x2 x9 = some r → K7 ρ w := by
    intro x9 ρ w h8_1 h8_7 hs hf
    refine hK7 _ _ ?_
    unfold eslaw00_Digit.j1 at hf
    refine W.seqK fun K11 hK11 => ?_
    refine W.region ?_
    refine WL.move (v := .int .i64 x9) h8_7 ?_
    refine WL.move (v := .int .i64 x2) h8_1 ?_
    obtain ⟨hn12, hf⟩ := guardE hf
    refine WL.bin (v := .int .i64 (Int.tmod x9 x2)) rfl rfl (ib_rem _ _ _ hn12) ?_
    refine WL.assign (v := .int .i64 (Int.tmod x9 x2)) rfl ?_
    refine WL.nil ?_
    refine hK11 _ _ ?_
    refine W.ret ?_
    have hr := Option.some.inj hf; subst hr
    exact ⟨_, resOk_one rfl rfl, (), rfl, (hs.mask []).pick []⟩
  refine W.seqK fun K13 hK13 => ?_
  refine W.region ?_
  refine WL.assign (v := .int .i64 0) rfl ?_
  refine WL.nil ?_
  refine hK13 _ _ ?_
  refine W.block ?_
  obtain ⟨bs17, hbs17, hfs17⟩ := bindE hf
  refine W.loop hbs17 (fun s ρ w => match s with | (x15, x16) => ρ 1 = .int .i64 x2 ∧ ρ 2 = .int .i64 x3 ∧ ρ 7 = .int .i64 x15 ∧ ρ 8 = .int .i64 x16 ∧ St ok (bz w0) w [] []) ⟨rfl, rfl, rfl, rfl, (hs.mask []).pick []⟩ ?_
  intro s ρ w os17 hI hf hbbs17
  obtain ⟨x15, x16⟩ := s
  obtain ⟨h14_1, h14_2, h14_7, h14_8, hs⟩ := hI
  unfold eslaw00_Digit.l1 at hf
  refine W.seqK fun K18 hK18 => ?_
  refine W.seqK fun K19 hK19 => ?_
  refine W.region ?_
  refine WL.move (v := .int .i64 x16) h14_8 ?_
  refine WL.move (v := .int .i64 x3) h14_2 ?_
  refine WL.bin (v := .bool (decide (x16 < x3))) rfl rfl (ib_lss _ _ _) ?_
  refine WL.nil ?_
  refine hK19 _ _ ?_
  rcases iteE hf with ⟨hc20, hf⟩ | ⟨hc20, hf⟩
  {
  refine W.cond_true (bool_tr rfl hc20) ?_
  refine W.skip ?_
  refine hK18 _ _ ?_
  refine W.seqK fun K21 hK21 => ?_
  refine W.block ?_
  refine W.region ?_
  refine WL.move (v := .int .i64 x15) h14_7 ?_
  refine WL.move (v := .int .i64 x2) h14_1 ?_
  obtain ⟨hn23, hf⟩ := guardE hf
  obtain ⟨x22, ex22, hf⟩ := letE hf
  refine WL.bin (v := .int .i64 x22) rfl rfl (ib_as ex22 (ib_quo _ _ _ hn23)) ?_
  refine WL.assign (v := .int .i64 x22) rfl ?_
  refine WL.nil ?_
  refine hK21 _ _ ?_
  refine W.region ?_
  refine WL.move (v := .int .i64 x16) h14_8 ?_
  obtain ⟨x24, ex24, hf⟩ := letE hf
  refine WL.bin (v := .int .i64 x24) rfl rfl (ib_as ex24 (ib_add _ _ _)) ?_
  refine WL.assign (v := .int .i64 x24) rfl ?_
  refine WL.nil ?_
  exact ⟨_, (Option.some.inj hf).symm, h14_1, h14_2, rfl, rfl, (hs.mask []).pick []⟩ }
  {
  refine W.cond_false (bool_tr rfl hc20) ?_
  refine W.exit ?_
  have hr := Option.some.inj hf; subst hr
  have hr := hbbs17 _ rfl; subst hr
  have hf := hfs17
  exact Jk10 x15 _ _ h14_1 h14_7 ((hs.mask []).pick []) hf }
theorem eslaw00_name.calls {ok : Nat → Prop} {w0 : World} {x1 : Int}  {r : List UInt8} (hf : eslaw00_name x1 = some r)  :
    Calls Try.prog 55 #[.int .i64 x1] w0 fun e w' => ∃ v, e = .returned v ∧ ∃ y : Unit, v = bstr r ∧ St ok (bz w0) w' [] [] := by
  unfold eslaw00_name at hf
  refine calls_of_W (fn := Try.f55) (N := 8) Try.func55 rfl Try.ntmps55 rfl ?_
  have hs : St ok (bz w0) w0 [] [] := St.init All.nil
  refine W.seqK fun K2 hK2 => ?_
  refine W.region ?_
  refine WL.assign (v := bstr ([] : List UInt8)) rfl ?_
  refine WL.nil ?_
  refine hK2 _ _ ?_
  refine W.seqK fun K3 hK3 => ?_
  refine W.region ?_
  refine WL.buildSlice (n := 4) (vs := [(0, bstr ([97] : List UInt8)), (1, bstr ([98] : List UInt8)), (2, bstr ([99] : List UInt8)), (3, bstr ([120, 49] : List UInt8))]) (cs := [bstr ([97] : List UInt8), bstr ([98] : List UInt8), bstr ([99] : List UInt8), bstr ([120, 49] : List UInt8)]) hs ⟨⟨rfl, rfl⟩, ⟨⟨rfl, rfl⟩, ⟨⟨rfl, rfl⟩, ⟨⟨rfl, rfl⟩, trivial⟩⟩⟩⟩ (bls PS59 (by decide) rfl) (fun g4 w hs => ?_)
  refine WL.move (v := .int .i64 x1) rfl ?_
  obtain ⟨x5, hxx5, hf⟩ := bindE hf
  refine WL.call (vs := [.int .i64 x1, .int .i64 4]) hs FN14 ⟨rfl, ⟨rfl, trivial⟩⟩ (fun ok hA => eslaw00_Index.calls (x1 := x1) (x2 := 4) hxx5) ?_
  rintro _ w hs
  have hs := hs.ownLit (A := tStr) (xs := [([97] : List UInt8), ([98] : List UInt8), ([99] : List UInt8), ([120, 49] : List UInt8)]) 0 rfl (fun ok hA => (Cells.app (Cells.one (T := tStr) rfl) (Cells.app (Cells.one (T := tStr) rfl) (Cells.app (Cells.one (T := tStr) rfl) (Cells.one (T := tStr) rfl))))) (Nat.le_of_ble_eq_true rfl)
  have hs := hs.freezeOwn 0 rfl
  obtain ⟨x6, hxx6, hf⟩ := bindE hf
  refine WL.indexAddr hs 0 rfl UN59 TI9 rfl rfl hxx6 (fun ad7 hs => ?_)
  refine WL.loadP hs 0 rfl TI9 (.inr rfl) rfl (fun v8 hs => ?_)
  obtain rfl := hs.str 0 rfl
  refine WL.assign (v := bstr x6) rfl ?_
  refine WL.nil ?_
  refine hK3 _ _ ?_
  refine W.ret ?_
  have hr := Option.some.inj hf; subst hr
  exact ⟨_, resOk_one rfl rfl, (), rfl, (hs.mask []).pick []⟩
theorem eslaw00_Effect.calls {ok : Nat → Prop} {w0 : World} {x1 : Int} {x2 : Bool}  {r : api_Effect} (hf : eslaw00_Effect x1 x2 = some r)  :
    Calls Try.prog 40 #[.int .i64 x1, .bool x2] w0 fun e w' => ∃ v, e = .returned v ∧ ∃ y : List Value, v = .agg y.toArray ∧ St ok (bz w0) w' [vl t_api_Effect r (.agg y.toArray)] [] := by
  unfold eslaw00_Effect at hf
  refine calls_of_W (fn := Try.f40) (N := 51) Try.func40 rfl Try.ntmps40 rfl ?_
  have hs : St ok (bz w0) w0 [] [] := St.init All.nil
  refine W.seqK fun K3 hK3 => ?_
  refine W.region ?_
  refine WL.alloc hs ZV72 (fun g4 w hs => ?_)
  refine WL.nil ?_
  refine hK3 _ _ ?_
  refine W.seqK fun K5 hK5 => ?_
  refine W.region ?_
  refine WL.move (v := .int .i64 x1) rfl ?_
  obtain ⟨x6, hxx6, hf⟩ := bindE hf
  refine WL.call (vs := [.int .i64 x1, .int .i64 4, .int .i64 1]) hs FN39 ⟨rfl, ⟨rfl, ⟨rfl, trivial⟩⟩⟩ (fun ok hA => eslaw00_Digit.calls (x1 := x1) (x2 := 4) (x3 := 1) hxx6) ?_
  rintro _ w hs
  obtain ⟨x7, hxx7, hf⟩ := bindE hf
  refine WL.call (vs := [.int .i64 x6]) hs FN55 ⟨rfl, trivial⟩ (fun ok hA => eslaw00_name.calls (x1 := x6) hxx7) ?_
  rintro _ w hs
  refine WL.move (v := .int .i64 x1) rfl ?_
  obtain ⟨x8, hxx8, hf⟩ := bindE hf
  refine WL.call (vs := [.int .i64 x1, .int .i64 4, .int .i64 2]) hs FN39 ⟨rfl, ⟨rfl, ⟨rfl, trivial⟩⟩⟩ (fun ok hA => eslaw00_Digit.calls (x1 := x1) (x2 := 4) (x3 := 2) hxx8) ?_
  rintro _ w hs
  obtain ⟨x9, hxx9, hf⟩ := bindE hf
  refine WL.call (vs := [.int .i64 x8]) hs FN55 ⟨rfl, trivial⟩ (fun ok hA => eslaw00_name.calls (x1 := x8) hxx9) ?_
  rintro _ w hs
  refine WL.build (vs := [(1, bstr x7), (2, bstr x9)]) (cs := [.int .i64 0, bstr x7, bstr x9, .int .i64 0, bstr []]) ⟨⟨rfl, rfl⟩, ⟨⟨rfl, rfl⟩, trivial⟩⟩ (bld PL72 rfl) ?_
  refine WL.alloc hs ZV72 (fun g10 w hs => ?_)
  refine WL.storeAll (vs := [.int .i64 0, bstr x7, bstr x9, .int .i64 0, bstr []]) hs 0 rfl TI72 rfl rfl rfl rfl (ones_of rfl) rfl (fun w hs => ?_)
  refine WL.nil ?_
  refine hK5 _ _ ?_
  refine W.seqK fun K11 hK11 => ?_
  refine W.region ?_
  refine WL.move (v := .int .i64 x1) rfl ?_
  obtain ⟨x12, hxx12, hf⟩ := bindE hf
  refine WL.call (vs := [.int .i64 x1, .int .i64 16, .int .i64 3]) hs FN39 ⟨rfl, ⟨rfl, ⟨rfl, trivial⟩⟩⟩ (fun ok hA => eslaw00_Digit.calls (x1 := x1) (x2 := 16) (x3 := 3) hxx12) ?_
  rintro _ w hs
  obtain ⟨x13, ex13, hf⟩ := letE hf
  refine WL.bin (v := .int .i64 x13) rfl rfl (ib_as ex13 (ib_sub _ _ _)) ?_
  refine WL.assign (v := .int .i64 x13) rfl ?_
  refine WL.nil ?_
  refine hK11 _ _ ?_
  refine W.seqK fun K14 hK14 => ?_
  have Jk19 : ∀ (x16 : Int) (x17 : Int) (x18 : List UInt8) (ρ : Env) (w : World), ρ 4 = .pointer (some ⟨g4, 0, none⟩) → ρ 5 = .pointer (some ⟨g10, 0, none⟩) → St ok (bz w0) w [] [blk g10 72 [.int .i64 x16, bstr x7, bstr x9, .int .i64 x17, bstr x18], blk g4 72 ([.int .i64 0, bstr [], bstr [], .int .i64 0, bstr []])] → eslaw00_Effect.j1 x7 x9 x16 x17 x18 = some r → K14 ρ w := by
    intro x16 x17 x18 ρ w h15_4 h15_5 hs hf
    refine hK14 _ _ ?_
    unfold eslaw00_Effect.j1 at hf
    refine W.seqK fun K20 hK20 => ?_
    refine W.region ?_
    refine WL.loadN (vs := [.int .i64 x16, bstr x7, bstr x9, .int .i64 x17, bstr x18]) hs 0 rfl TI72 h15_5 rfl rfl ?_
    refine WL.storeAll (vs := [.int .i64 x16, bstr x7, bstr x9, .int .i64 x17, bstr x18]) hs 1 rfl TI72 h15_4 rfl rfl rfl (ones_of rfl) rfl (fun w hs => ?_)
    refine WL.nil ?_
    refine hK20 _ _ ?_
    refine W.ret ?_
    have hr := Option.some.inj hf; subst hr
    have hs := hs.add (it := vl t_api_Effect (⟨x16, x7, x9, x17, x18⟩ : api_Effect) (.agg [.int .i64 x16, bstr x7, bstr x9, .int .i64 x17, bstr x18].toArray)) fun ok hA => V_agg (show t_api_Effect.R ok _ _ _ from ⟨[.int .i64 x16], [bstr x7, bstr x9, .int .i64 x17, bstr x18], rfl, rfl, ⟨[bstr x7], [bstr x9, .int .i64 x17, bstr x18], rfl, rfl, ⟨[bstr x9], [.int .i64 x17, bstr x18], rfl, rfl, ⟨[.int .i64 x17], [bstr x18], rfl, rfl, rfl⟩⟩⟩⟩) rfl
    exact ⟨_, resOk_one rfl (res_all hs 1 rfl TI72 h15_4 rfl), [.int .i64 x16, bstr x7, bstr x9, .int .i64 x17, bstr x18], rfl, (hs.mask []).pick [0]⟩
  refine W.block ?_
  refine W.seqK fun K21 hK21 => ?_
  refine W.region ?_
  refine WL.move (v := .bool x2) rfl ?_
  refine WL.assign (v := .bool x2) rfl ?_
  refine WL.nil ?_
  refine hK21 _ _ ?_
  rcases iteE hf with ⟨hc22, hf⟩ | ⟨hc22, hf⟩
  {
  refine W.cond_true (bool_tr rfl hc22) ?_
  refine W.seqK fun K23 hK23 => ?_
  refine W.region ?_
  refine WL.fieldAddr (m := 0) rfl FA72_0 rfl ?_
  refine WL.store (vs := [.int .i64 1]) (cs' := [.int .i64 1, bstr x7, bstr x9, .int .i64 0, bstr []]) hs 0 rfl TI3 rfl rfl rfl rfl (ones_of rfl) (Nat.le_of_ble_eq_true rfl) rfl (fun w hs => ?_)
  refine WL.nil ?_
  refine hK23 _ _ ?_
  refine W.seqK fun K24 hK24 => ?_
  refine W.region ?_
  refine WL.move (v := .int .i64 x13) rfl ?_
  refine WL.fieldAddr (m := 3) rfl FA72_3 rfl ?_
  refine WL.store (vs := [.int .i64 x13]) (cs' := [.int .i64 1, bstr x7, bstr x9, .int .i64 x13, bstr []]) hs 0 rfl TI2 rfl rfl rfl rfl (ones_of rfl) (Nat.le_of_ble_eq_true rfl) rfl (fun w hs => ?_)
  refine WL.nil ?_
  refine hK24 _ _ ?_
  refine W.region ?_
  refine WL.move (v := .int .i64 x1) rfl ?_
  obtain ⟨x25, hxx25, hf⟩ := bindE hf
  refine WL.call (vs := [.int .i64 x1, .int .i64 4, .int .i64 5]) hs FN39 ⟨rfl, ⟨rfl, ⟨rfl, trivial⟩⟩⟩ (fun ok hA => eslaw00_Digit.calls (x1 := x1) (x2 := 4) (x3 := 5) hxx25) ?_
  rintro _ w hs
  obtain ⟨x26, hxx26, hf⟩ := bindE hf
  refine WL.call (vs := [.int .i64 x25]) hs FN55 ⟨rfl, trivial⟩ (fun ok hA => eslaw00_name.calls (x1 := x25) hxx26) ?_
  rintro _ w hs
  refine WL.fieldAddr (m := 4) rfl FA72_4 rfl ?_
  refine WL.store (vs := [bstr x26]) (cs' := [.int .i64 1, bstr x7, bstr x9, .int .i64 x13, bstr x26]) hs 0 rfl TI9 rfl rfl rfl rfl (ones_of rfl) (Nat.le_of_ble_eq_true rfl) rfl (fun w hs => ?_)
  refine WL.nil ?_
  exact Jk19 1 x13 x26 _ _ rfl rfl ((hs.mask [true, true]).pick []) hf }
  {
  refine W.cond_false (bool_tr rfl hc22) ?_
  refine W.seqK fun K27 hK27 => ?_
  refine W.region ?_
  refine WL.move (v := .int .i64 x1) rfl ?_
  obtain ⟨x28, hxx28, hf⟩ := bindE hf
  refine WL.call (vs := [.int .i64 x1, .int .i64 4, .int .i64 0]) hs FN39 ⟨rfl, ⟨rfl, ⟨rfl, trivial⟩⟩⟩ (fun ok hA => eslaw00_Digit.calls (x1 := x1) (x2 := 4) (x3 := 0) hxx28) ?_
  rintro _ w hs
  refine WL.bin (v := .bool (x28 == 0)) rfl rfl (ib_eql _ _ _) ?_
  refine WL.assign (v := .bool (x28 == 0)) rfl ?_
  refine WL.nil ?_
  refine hK27 _ _ ?_
  rcases iteE hf with ⟨hc29, hf⟩ | ⟨hc29, hf⟩
  {
  refine W.cond_true (bool_tr rfl hc29) ?_
  refine W.seqK fun K30 hK30 => ?_
  refine W.region ?_
  refine WL.fieldAddr (m := 0) rfl FA72_0 rfl ?_
  refine WL.store (vs := [.int .i64 2]) (cs' := [.int .i64 2, bstr x7, bstr x9, .int .i64 0, bstr []]) hs 0 rfl TI3 rfl rfl rfl rfl (ones_of rfl) (Nat.le_of_ble_eq_true rfl) rfl (fun w hs => ?_)
  refine WL.nil ?_
  refine hK30 _ _ ?_
  refine W.region ?_
  refine WL.move (v := .int .i64 x13) rfl ?_
  refine WL.fieldAddr (m := 3) rfl FA72_3 rfl ?_
  refine WL.store (vs := [.int .i64 x13]) (cs' := [.int .i64 2, bstr x7, bstr x9, .int .i64 x13, bstr []]) hs 0 rfl TI2 rfl rfl rfl rfl (ones_of rfl) (Nat.le_of_ble_eq_true rfl) rfl (fun w hs => ?_)
  refine WL.nil ?_
  exact Jk19 2 x13 [] _ _ rfl rfl ((hs.mask [true, true]).pick []) hf }
  {
  refine W.cond_false (bool_tr rfl hc29) ?_
  refine W.seqK fun K31 hK31 => ?_
  refine W.region ?_
  refine WL.move (v := .int .i64 x1) rfl ?_
  obtain ⟨x32, hxx32, hf⟩ := bindE hf
  refine WL.call (vs := [.int .i64 x1, .int .i64 4, .int .i64 0]) hs FN39 ⟨rfl, ⟨rfl, ⟨rfl, trivial⟩⟩⟩ (fun ok hA => eslaw00_Digit.calls (x1 := x1) (x2 := 4) (x3 := 0) hxx32) ?_
  rintro _ w hs
  refine WL.bin (v := .bool (x32 == 1)) rfl rfl (ib_eql _ _ _) ?_
  refine WL.assign (v := .bool (x32 == 1)) rfl ?_
  refine WL.nil ?_
  refine hK31 _ _ ?_
  rcases iteE hf with ⟨hc33, hf⟩ | ⟨hc33, hf⟩
  {
  refine W.cond_true (bool_tr rfl hc33) ?_
  refine W.seqK fun K34 hK34 => ?_
  refine W.region ?_
  refine WL.fieldAddr (m := 0) rfl FA72_0 rfl ?_
  refine WL.store (vs := [.int .i64 3]) (cs' := [.int .i64 3, bstr x7, bstr x9, .int .i64 0, bstr []]) hs 0 rfl TI3 rfl rfl rfl rfl (ones_of rfl) (Nat.le_of_ble_eq_true rfl) rfl (fun w hs => ?_)
  refine WL.nil ?_
  refine hK34 _ _ ?_
  refine W.region ?_
  refine WL.move (v := .int .i64 x13) rfl ?_
  refine WL.fieldAddr (m := 3) rfl FA72_3 rfl ?_
  refine WL.store (vs := [.int .i64 x13]) (cs' := [.int .i64 3, bstr x7, bstr x9, .int .i64 x13, bstr []]) hs 0 rfl TI2 rfl rfl rfl rfl (ones_of rfl) (Nat.le_of_ble_eq_true rfl) rfl (fun w hs => ?_)
  refine WL.nil ?_
  exact Jk19 3 x13 [] _ _ rfl rfl ((hs.mask [true, true]).pick []) hf }
  {
  refine W.cond_false (bool_tr rfl hc33) ?_
  refine W.seqK fun K35 hK35 => ?_
  refine W.region ?_
  refine WL.move (v := .int .i64 x1) rfl ?_
  obtain ⟨x36, hxx36, hf⟩ := bindE hf
  refine WL.call (vs := [.int .i64 x1, .int .i64 4, .int .i64 0]) hs FN39 ⟨rfl, ⟨rfl, ⟨rfl, trivial⟩⟩⟩ (fun ok hA => eslaw00_Digit.calls (x1 := x1) (x2 := 4) (x3 := 0) hxx36) ?_
  rintro _ w hs
  refine WL.bin (v := .bool (x36 == 2)) rfl rfl (ib_eql _ _ _) ?_
  refine WL.assign (v := .bool (x36 == 2)) rfl ?_
  refine WL.nil ?_
  refine hK35 _ _ ?_
  rcases iteE hf with ⟨hc37, hf⟩ | ⟨hc37, hf⟩
  {
  refine W.cond_true (bool_tr rfl hc37) ?_
  refine W.seqK fun K38 hK38 => ?_
  refine W.region ?_
  refine WL.fieldAddr (m := 0) rfl FA72_0 rfl ?_
  refine WL.store (vs := [.int .i64 4]) (cs' := [.int .i64 4, bstr x7, bstr x9, .int .i64 0, bstr []]) hs 0 rfl TI3 rfl rfl rfl rfl (ones_of rfl) (Nat.le_of_ble_eq_true rfl) rfl (fun w hs => ?_)
  refine WL.nil ?_
  refine hK38 _ _ ?_
  refine W.region ?_
  refine WL.move (v := .int .i64 x1) rfl ?_
  obtain ⟨x39, hxx39, hf⟩ := bindE hf
  refine WL.call (vs := [.int .i64 x1, .int .i64 4, .int .i64 5]) hs FN39 ⟨rfl, ⟨rfl, ⟨rfl, trivial⟩⟩⟩ (fun ok hA => eslaw00_Digit.calls (x1 := x1) (x2 := 4) (x3 := 5) hxx39) ?_
  rintro _ w hs
  obtain ⟨x40, hxx40, hf⟩ := bindE hf
  refine WL.call (vs := [.int .i64 x39]) hs FN55 ⟨rfl, trivial⟩ (fun ok hA => eslaw00_name.calls (x1 := x39) hxx40) ?_
  rintro _ w hs
  refine WL.fieldAddr (m := 4) rfl FA72_4 rfl ?_
  refine WL.store (vs := [bstr x40]) (cs' := [.int .i64 4, bstr x7, bstr x9, .int .i64 0, bstr x40]) hs 0 rfl TI9 rfl rfl rfl rfl (ones_of rfl) (Nat.le_of_ble_eq_true rfl) rfl (fun w hs => ?_)
  refine WL.nil ?_
  exact Jk19 4 0 x40 _ _ rfl rfl ((hs.mask [true, true]).pick []) hf }
  {
  refine W.cond_false (bool_tr rfl hc37) ?_
  refine W.region ?_
  refine WL.fieldAddr (m := 0) rfl FA72_0 rfl ?_
  refine WL.store (vs := [.int .i64 5]) (cs' := [.int .i64 5, bstr x7, bstr x9, .int .i64 0, bstr []]) hs 0 rfl TI3 rfl rfl rfl rfl (ones_of rfl) (Nat.le_of_ble_eq_true rfl) rfl (fun w hs => ?_)
  refine WL.nil ?_
  exact Jk19 5 0 [] _ _ rfl rfl ((hs.mask [true, true]).pick []) hf } } } }
theorem eslaw38_Times.calls {ok : Nat → Prop} {w0 : World} {x1 : List Int} {a2 : Option Addr} {c3 : Nat} {r : history_History} (hf : eslaw38_Times x1 = some r) (i0 : (vl (tSlice (tInt .i64)) x1 (.slice a2 x1.length c3)).holds ok w0) :
    Calls Try.prog 13 #[.slice a2 x1.length c3] w0 fun e w' => ∃ v, e = .returned v ∧ ∃ y : (Option Addr × Nat × Nat), v = .agg ([.slice y.1 y.2.1 y.2.2] : List Value).toArray ∧ St ok (bz w0) w' [] [own t_history_Operation 35 (.slice y.1 y.2.1 y.2.2) r.Operations] := by
  unfold eslaw38_Times at hf
  refine calls_of_W (fn := Try.f13) (N := 104) Try.func13 rfl Try.ntmps13 rfl ?_
  have hs : St ok (bz w0) w0 [vl (tSlice (tInt .i64)) x1 (.slice a2 x1.length c3)] [] := St.init (All.cons i0 All.nil)
  clear i0
  refine W.seqK fun K4 hK4 => ?_
  refine W.region ?_
  refine WL.alloc hs ZV24 (fun g5 w hs => ?_)
  refine WL.nil ?_
  refine hK4 _ _ ?_
  refine W.seqK fun K6 hK6 => ?_
  refine W.region ?_
  refine WL.build (vs := []) (cs := [.slice none 0 0]) trivial (bld PL24 rfl) ?_
  refine WL.alloc hs ZV24 (fun g7 w hs => ?_)
  refine WL.storeAll (vs := [.slice none 0 0]) hs 0 rfl TI24 rfl rfl rfl rfl (ones_of rfl) rfl (fun w hs => ?_)
  refine WL.nil ?_
  refine hK6 _ _ ?_
  refine W.seqK fun K8 hK8 => ?_
  refine W.region ?_
  refine WL.assign (v := .int .i64 0) rfl ?_
  refine WL.nil ?_
  refine hK8 _ _ ?_
  refine W.seqK fun K9 hK9 => ?_
  have hs := hs.ownNil t_history_Operation 35
  have Jk15 : ∀ (x11 : List history_Operation) (a12 : Option Addr) (c13 : Nat) (n14 : Nat) (ρ : Env) (w : World), ρ 2 = .pointer (some ⟨g5, 0, none⟩) → ρ 3 = .pointer (some ⟨g7, 0, none⟩) → St ok (bz w0) w [] [own t_history_Operation 35 (.slice a12 n14 c13) x11, blk g7 24 [.slice a12 n14 c13], blk g5 24 [.slice none 0 0]] → eslaw38_Times.j1 x11 = some r → K9 ρ w := by
    intro x11 a12 c13 n14 ρ w h10_2 h10_3 hs hf
    refine hK9 _ _ ?_
    unfold eslaw38_Times.j1 at hf
    refine W.seqK fun K16 hK16 => ?_
    refine W.region ?_
    refine WL.loadN (vs := [.slice a12 n14 c13]) hs 1 rfl TI24 h10_3 rfl rfl ?_
    refine WL.storeAll (vs := [.slice a12 n14 c13]) hs 2 rfl TI24 h10_2 rfl rfl rfl (ones_of rfl) rfl (fun w hs => ?_)
    refine WL.nil ?_
    refine hK16 _ _ ?_
    refine W.ret ?_
    have hr := Option.some.inj hf; subst hr
    exact ⟨_, resOk_one rfl (res_all hs 2 rfl TI24 h10_2 rfl), (a12, n14, c13), rfl, (hs.mask [true]).pick []⟩
  refine W.seqK fun K17 hK17 => ?_
  refine W.region ?_
  refine WL.assign (v := .int .i64 0) rfl ?_
  refine WL.nil ?_
  refine hK17 _ _ ?_
  refine W.block ?_
  obtain ⟨bs25, hbs25, hfs25⟩ := bindE hf
  refine W.loop hbs25 (fun s ρ w => match s with | (x19, x20, x21) => ∃ (a22 : Option Addr), ∃ (c23 : Nat), ∃ (n24 : Nat), ρ 0 = .slice a2 x1.length c3 ∧ ρ 2 = .pointer (some ⟨g5, 0, none⟩) ∧ ρ 3 = .pointer (some ⟨g7, 0, none⟩) ∧ ρ 4 = .int .i64 x19 ∧ ρ 5 = .int .i64 x20 ∧ St ok (bz w0) w [vl (tSlice (tInt .i64)) x1 (.slice a2 x1.length c3)] [own t_history_Operation 35 (.slice a22 n24 c23) x21, blk g7 24 [.slice a22 n24 c23], blk g5 24 [.slice none 0 0]]) ⟨none, 0, 0, rfl, rfl, rfl, rfl, rfl, (hs.mask [true, true, true]).pick [0]⟩ ?_
  intro s ρ w os25 hI hf hbbs25
  obtain ⟨x19, x20, x21⟩ := s
  obtain ⟨a22, c23, n24, h18_0, h18_2, h18_3, h18_4, h18_5, hs⟩ := hI
  unfold eslaw38_Times.l2 at hf
  refine W.seqK fun K26 hK26 => ?_
  refine W.seqK fun K27 hK27 => ?_
  have Jk30 : ∀ (x29 : Bool) (ρ : Env) (w : World), ρ 0 = .slice a2 x1.length c3 → ρ 2 = .pointer (some ⟨g5, 0, none⟩) → ρ 3 = .pointer (some ⟨g7, 0, none⟩) → ρ 4 = .int .i64 x19 → ρ 5 = .int .i64 x20 → ρ 18 = .bool x29 → St ok (bz w0) w [vl (tSlice (tInt .i64)) x1 (.slice a2 x1.length c3)] [own t_history_Operation 35 (.slice a22 n24 c23) x21, blk g7 24 [.slice a22 n24 c23], blk g5 24 [.slice none 0 0]] → eslaw38_Times.j9 x1 x19 x20 x21 x29 = some os25 → K27 ρ w := by
    intro x29 ρ w h28_0 h28_2 h28_3 h28_4 h28_5 h28_18 hs hf
    refine hK27 _ _ ?_
    unfold eslaw38_Times.j9 at hf
    rcases iteE hf with ⟨hc31, hf⟩ | ⟨hc31, hf⟩
    {
    refine W.cond_true (bool_tr h28_18 hc31) ?_
    refine W.skip ?_
    refine hK26 _ _ ?_
    refine W.seqK fun K32 hK32 => ?_
    have Jk39 : ∀ (x34 : Int) (x35 : List history_Operation) (a36 : Option Addr) (c37 : Nat) (n38 : Nat) (ρ : Env) (w : World), ρ 0 = .slice a2 x1.length c3 → ρ 2 = .pointer (some ⟨g5, 0, none⟩) → ρ 3 = .pointer (some ⟨g7, 0, none⟩) → ρ 4 = .int .i64 x34 → ρ 5 = .int .i64 x20 → St ok (bz w0) w [vl (tSlice (tInt .i64)) x1 (.slice a2 x1.length c3)] [own t_history_Operation 35 (.slice a36 n38 c37) x35, blk g7 24 [.slice a36 n38 c37], blk g5 24 [.slice none 0 0]] → eslaw38_Times.j2 x20 x34 x35 = some os25 → K32 ρ w := by
      intro x34 x35 a36 c37 n38 ρ w h33_0 h33_2 h33_3 h33_4 h33_5 hs hf
      refine hK32 _ _ ?_
      unfold eslaw38_Times.j2 at hf
      refine W.region ?_
      refine WL.move (v := .int .i64 x20) h33_5 ?_
      obtain ⟨x40, ex40, hf⟩ := letE hf
      refine WL.bin (v := .int .i64 x40) rfl rfl (ib_as ex40 (ib_add _ _ _)) ?_
      refine WL.assign (v := .int .i64 x40) rfl ?_
      refine WL.nil ?_
      exact ⟨_, (Option.some.inj hf).symm, a36, c37, n38, h33_0, h33_2, h33_3, h33_4, rfl, (hs.mask [true, true, true]).pick [0]⟩
    refine W.block ?_
    refine W.seqK fun K41 hK41 => ?_
    refine W.region ?_
    refine WL.move (v := .int .i64 x19) h28_4 ?_
    obtain ⟨x42, ex42, hf⟩ := letE hf
    refine WL.bin (v := .int .i64 x42) rfl rfl (ib_as ex42 (ib_add _ _ _)) ?_
    refine WL.assign (v := .int .i64 x42) rfl ?_
    refine WL.nil ?_
    refine hK41 _ _ ?_
    refine W.seqK fun K43 hK43 => ?_
    refine W.region ?_
    refine WL.move (v := .slice a2 x1.length c3) h28_0 ?_
    refine WL.move (v := .int .i64 x20) h28_5 ?_
    obtain ⟨x44, hxx44, hf⟩ := bindE hf
    refine WL.indexAddr hs 0 rfl UN29 TI3 rfl rfl hxx44 (fun ad45 hs => ?_)
    refine WL.loadP hs 0 rfl TI3 (.inr rfl) rfl (fun v46 hs => ?_)
    obtain rfl := hs.int 0 rfl
    obtain ⟨x47, hxx47, hf⟩ := bindE hf
    refine WL.call (vs := [.int .i64 x44, .int .i64 6, .int .i64 0]) hs FN39 ⟨rfl, ⟨rfl, ⟨rfl, trivial⟩⟩⟩ (fun ok hA => eslaw00_Digit.calls (x1 := x44) (x2 := 6) (x3 := 0) hxx47) ?_
    rintro _ w hs
    obtain ⟨x48, ex48, hf⟩ := letE hf
    refine WL.bin (v := .int .i64 x48) rfl rfl (ib_as ex48 (ib_add _ _ _)) ?_
    refine WL.assign (v := .int .i64 x48) rfl ?_
    refine WL.nil ?_
    refine hK43 _ _ ?_
    refine W.seqK fun K49 hK49 => ?_
    refine W.region ?_
    refine WL.assign (v := .int .i64 (-1)) rfl ?_
    refine WL.nil ?_
    refine hK49 _ _ ?_
    refine W.seqK fun K50 hK50 => ?_
    have Jk53 : ∀ (x52 : Int) (ρ : Env) (w : World), ρ 0 = .slice a2 x1.length c3 → ρ 2 = .pointer (some ⟨g5, 0, none⟩) → ρ 3 = .pointer (some ⟨g7, 0, none⟩) → ρ 4 = .int .i64 x42 → ρ 5 = .int .i64 x20 → ρ 6 = .int .i64 x48 → ρ 7 = .int .i64 x52 → St ok (bz w0) w [vl (tSlice (tInt .i64)) x1 (.slice a2 x1.length c3)] [own t_history_Operation 35 (.slice a22 n24 c23) x21, blk g7 24 [.slice a22 n24 c23], blk g5 24 [.slice none 0 0]] → eslaw38_Times.j7 x1 x20 x21 x42 x48 x52 = some os25 → K50 ρ w := by
      intro x52 ρ w h51_0 h51_2 h51_3 h51_4 h51_5 h51_6 h51_7 hs hf
      refine hK50 _ _ ?_
      unfold eslaw38_Times.j7 at hf
      refine W.seqK fun K54 hK54 => ?_
      have Jk57 : ∀ (x56 : Int) (ρ : Env) (w : World), ρ 0 = .slice a2 x1.length c3 → ρ 2 = .pointer (some ⟨g5, 0, none⟩) → ρ 3 = .pointer (some ⟨g7, 0, none⟩) → ρ 4 = .int .i64 x42 → ρ 5 = .int .i64 x20 → ρ 6 = .int .i64 x48 → ρ 7 = .int .i64 x56 → St ok (bz w0) w [vl (tSlice (tInt .i64)) x1 (.slice a2 x1.length c3)] [own t_history_Operation 35 (.slice a22 n24 c23) x21, blk g7 24 [.slice a22 n24 c23], blk g5 24 [.slice none 0 0]] → eslaw38_Times.j5 x1 x20 x21 x42 x48 x56 = some os25 → K54 ρ w := by
        intro x56 ρ w h55_0 h55_2 h55_3 h55_4 h55_5 h55_6 h55_7 hs hf
        refine hK54 _ _ ?_
        unfold eslaw38_Times.j5 at hf
        refine W.seqK fun K58 hK58 => ?_
        refine W.seqK fun K59 hK59 => ?_
        have Jk62 : ∀ (x61 : Bool) (ρ : Env) (w : World), ρ 0 = .slice a2 x1.length c3 → ρ 2 = .pointer (some ⟨g5, 0, none⟩) → ρ 3 = .pointer (some ⟨g7, 0, none⟩) → ρ 4 = .int .i64 x42 → ρ 5 = .int .i64 x20 → ρ 6 = .int .i64 x48 → ρ 7 = .int .i64 x56 → ρ 65 = .bool x61 → St ok (bz w0) w [vl (tSlice (tInt .i64)) x1 (.slice a2 x1.length c3)] [own t_history_Operation 35 (.slice a22 n24 c23) x21, blk g7 24 [.slice a22 n24 c23], blk g5 24 [.slice none 0 0]] → eslaw38_Times.j4 x1 x20 x21 x42 x48 x56 x61 = some os25 → K59 ρ w := by
          intro x61 ρ w h60_0 h60_2 h60_3 h60_4 h60_5 h60_6 h60_7 h60_65 hs hf
          refine hK59 _ _ ?_
          unfold eslaw38_Times.j4 at hf
          rcases iteE hf with ⟨hc63, hf⟩ | ⟨hc63, hf⟩
          {
          refine W.cond_true (bool_tr h60_65 hc63) ?_
          refine W.seqK fun K64 hK64 => ?_
          refine W.region ?_
          refine WL.fieldAddr (m := 0) h60_3 FA24_0 rfl ?_
          refine WL.load1 (v := .slice a22 n24 c23) hs 1 rfl TI22 rfl rfl ?_
          refine WL.move (v := .int .i64 x56) h60_7 ?_
          refine WL.move (v := .int .i64 x42) h60_4 ?_
          obtain ⟨x65, hxx65, hf⟩ := bindE hf
          refine WL.indexAddrO hs 0 rfl UN22 TI35 rfl rfl hxx65 (fun ad66 hatad66 => ?_)
          refine WL.fieldAddrO (OwnAt.f hatad66) rfl FA35_5 rfl (fun ad67 hatad67 => ?_)
          obtain ⟨x68, exx68, hf⟩ := letE hf
          refine WL.storeOF (z := x42) (vs := [.int .i64 x42]) (zs := x68) F_history_Operation_Return hs 0 rfl TI3 hatad67 hxx65 rfl rfl rfl (fun ok hA => rfl) exx68 (fun w hs => ?_)
          refine WL.nil ?_
          refine hK64 _ _ ?_
          refine W.exit ?_
          exact Jk39 x42 x68 a22 c23 n24 _ _ h60_0 h60_2 h60_3 h60_4 h60_5 ((hs.mask [true, true, true]).pick [0]) hf }
          {
          refine W.cond_false (bool_tr h60_65 hc63) ?_
          refine W.skip ?_
          refine hK58 _ _ ?_
          refine W.seqK fun K69 hK69 => ?_
          refine W.region ?_
          refine WL.move (v := .int .i64 x48) h60_6 ?_
          refine WL.move (v := .slice a2 x1.length c3) h60_0 ?_
          refine WL.move (v := .int .i64 x20) h60_5 ?_
          obtain ⟨x70, hxx70, hf⟩ := bindE hf
          refine WL.indexAddr hs 0 rfl UN29 TI3 rfl rfl hxx70 (fun ad71 hs => ?_)
          refine WL.loadP hs 0 rfl TI3 (.inr rfl) rfl (fun v72 hs => ?_)
          obtain rfl := hs.int 0 rfl
          obtain ⟨x73, hxx73, hf⟩ := bindE hf
          refine WL.call (vs := [.int .i64 x70, .int .i64 3, .int .i64 2]) hs FN39 ⟨rfl, ⟨rfl, ⟨rfl, trivial⟩⟩⟩ (fun ok hA => eslaw00_Digit.calls (x1 := x70) (x2 := 3) (x3 := 2) hxx73) ?_
          rintro _ w hs
          obtain ⟨x74, ex74, hf⟩ := letE hf
          refine WL.bin (v := .int .i64 x74) rfl rfl (ib_as ex74 (ib_add _ _ _)) ?_
          refine WL.move (v := .int .i64 x42) h60_4 ?_
          refine WL.build (vs := [(0, .int .i64 x48), (1, .int .i64 x74), (4, .int .i64 x42)]) (cs := [.int .i64 x48, .int .i64 x74, .slice none 0 0, .slice none 0 0, .int .i64 x42, .int .i64 0]) ⟨⟨rfl, rfl⟩, ⟨⟨rfl, rfl⟩, ⟨⟨rfl, rfl⟩, trivial⟩⟩⟩ (bld PL35 rfl) ?_
          refine WL.alloc hs ZV35 (fun g75 w hs => ?_)
          refine WL.storeAll (vs := [.int .i64 x48, .int .i64 x74, .slice none 0 0, .slice none 0 0, .int .i64 x42, .int .i64 0]) hs 0 rfl TI35 rfl rfl rfl rfl (ones_of rfl) rfl (fun w hs => ?_)
          refine WL.nil ?_
          refine hK69 _ _ ?_
          refine W.seqK fun K76 hK76 => ?_
          have Jk81 : ∀ (x78 : List api_Effect) (a79 : Option Addr) (c80 : Nat) (ρ : Env) (w : World), ρ 0 = .slice a2 x1.length c3 → ρ 2 = .pointer (some ⟨g5, 0, none⟩) → ρ 3 = .pointer (some ⟨g7, 0, none⟩) → ρ 4 = .int .i64 x42 → ρ 5 = .int .i64 x20 → ρ 9 = .pointer (some ⟨g75, 0, none⟩) → St ok (bz w0) w [vl (tSlice (tInt .i64)) x1 (.slice a2 x1.length c3), vl (tSlice t_api_Effect) x78 (.slice a79 x78.length c80)] [blk g75 35 [.int .i64 x48, .int .i64 x74, .slice a79 x78.length c80, .slice none 0 0, .int .i64 x42, .int .i64 0], own t_history_Operation 35 (.slice a22 n24 c23) x21, blk g7 24 [.slice a22 n24 c23], blk g5 24 [.slice none 0 0]] → eslaw38_Times.j3 x20 x21 x42 x48 x74 x78 = some os25 → K76 ρ w := by
            intro x78 a79 c80 ρ w h77_0 h77_2 h77_3 h77_4 h77_5 h77_9 hs hf
            refine hK76 _ _ ?_
            unfold eslaw38_Times.j3 at hf
            refine W.region ?_
            refine WL.fieldAddr (m := 0) h77_3 FA24_0 rfl ?_
            refine WL.load1 (v := .slice a22 n24 c23) hs 2 rfl TI22 rfl rfl ?_
            refine WL.loadN (vs := [.int .i64 x48, .int .i64 x74, .slice a79 x78.length c80, .slice none 0 0, .int .i64 x42, .int .i64 0]) hs 0 rfl TI35 h77_9 rfl rfl ?_
            refine WL.buildSlice (n := 1) (vs := [(0, .agg ([.int .i64 x48, .int .i64 x74, .slice a79 x78.length c80, .slice none 0 0, .int .i64 x42, .int .i64 0] : List Value).toArray)]) (cs := [.int .i64 x48, .int .i64 x74, .slice a79 x78.length c80, .slice none 0 0, .int .i64 x42, .int .i64 0]) hs ⟨⟨rfl, rfl⟩, trivial⟩ (bls PS22 (by decide) rfl) (fun g82 w hs => ?_)
            obtain ⟨x83, hxx83, hf⟩ := bindE hf
            obtain ⟨hbx83, hex83⟩ := appE hxx83
            refine WL.append (ys := [(⟨x48, x74, x78, [], x42, 0⟩ : history_Operation)]) (zs := x83) hs 2 rfl 0 rfl UN22 EI35 rfl rfl (fun ok hA => (Cells.one (T := t_history_Operation) (show t_history_Operation.R ok _ (⟨x48, x74, x78, [], x42, 0⟩ : history_Operation) _ from ⟨[.int .i64 x48], [.int .i64 x74, .slice a79 x78.length c80, .slice none 0 0, .int .i64 x42, .int .i64 0], rfl, rfl, ⟨[.int .i64 x74], [.slice a79 x78.length c80, .slice none 0 0, .int .i64 x42, .int .i64 0], rfl, rfl, ⟨[.slice a79 x78.length c80], [.slice none 0 0, .int .i64 x42, .int .i64 0], rfl, (R_one (hA.get 1 rfl)), ⟨[.slice none 0 0], [.int .i64 x42, .int .i64 0], rfl, R_nil, ⟨[.int .i64 x42], [.int .i64 0], rfl, rfl, rfl⟩⟩⟩⟩⟩))) hbx83 (by omega) hex83 (fun v84 w hs => ?_)
            obtain ⟨a85, n87, c86, rfl⟩ := hs.ownv3 2 rfl
            refine WL.fieldAddr (m := 0) h77_3 FA24_0 rfl ?_
            refine WL.storeAll (vs := [.slice a85 n87 c86]) hs 3 rfl TI22 rfl rfl rfl rfl (ones_of rfl) rfl (fun w hs => ?_)
            refine WL.nil ?_
            exact Jk39 x42 x83 a85 c86 n87 _ _ h77_0 h77_2 h77_3 h77_4 h77_5 ((hs.mask [false, false, true, true, true]).pick [0]) hf
          refine W.seqK fun K88 hK88 => ?_
          refine W.region ?_
          refine WL.fieldAddr (m := 1) rfl FA35_1 rfl ?_
          refine WL.load1 (v := .int .i64 x74) hs 0 rfl TI3 rfl rfl ?_
          refine WL.bin (v := .bool (x74 == 1)) rfl rfl (ib_eql _ _ _) ?_
          refine WL.nil ?_
          refine hK88 _ _ ?_
          rcases iteE hf with ⟨hc89, hf⟩ | ⟨hc89, hf⟩
          {
          refine W.cond_true (bool_tr rfl hc89) ?_
          obtain ⟨x90, hxx90, hf⟩ := bindE hf
          obtain ⟨x93, hxx93, hf⟩ := bindE hf
          obtain ⟨x96, hxx96, hf⟩ := bindE hf
          obtain ⟨x97, hxx97, hf⟩ := bindE hf
          refine W.any (by kernel_rfl) 13 1 [true, true, true, true, true, true, true, true, true, true, true, true, true, false] rfl rfl (poAt [pv (.slice a2 x1.length c3), pv (.int .i64 x20), pq (fun y : Addr => .pointer (some y)) (fun v => [pl (tInt .i64) x90 (adOf v)]) (fun v => []), pv (.int .i64 x90), pv (.slice a2 x1.length c3), pv (.int .i64 x20), pq (fun y : Addr => .pointer (some y)) (fun v => [pl (tInt .i64) x93 (adOf v)]) (fun v => []), pv (.int .i64 x93), pv (.int .i64 x96), pv (.bool (x96 == 1)), pq (fun y : List Value => .agg y.toArray) (fun v => [vl t_api_Effect x97 v]) (fun v => []), pq (fun y : (Option Addr × Nat) => .slice y.1 ([x97]).length y.2) (fun v => [vl (tSlice t_api_Effect) [x97] v]) (fun v => []), pv (.pointer (some ⟨g75, 2, none⟩))]) (Λ := [blk g75 35 [.int .i64 x48, .int .i64 x74, .slice none 0 0, .slice none 0 0, .int .i64 x42, .int .i64 0], own t_history_Operation 35 (.slice a22 n24 c23) x21, blk g7 24 [.slice a22 n24 c23], blk g5 24 [.slice none 0 0]]) hs (by kernel_rfl) (by kernel_rfl) (by kernel_rfl) ⟨⟨⟨⟨⟨⟨⟨⟨⟨⟨⟨⟨⟨trivial, ?_⟩, ?_⟩, ?_⟩, ?_⟩, ?_⟩, ?_⟩, ?_⟩, ?_⟩, ?_⟩, ?_⟩, ?_⟩, ?_⟩, ?_⟩ ?_
          {
          intro ρ w Γx Λx hs hu hp
          refine WL.move (v := .slice a2 x1.length c3) ((hu 0 rfl).trans h60_0) ?_
          exact WL.nil ⟨rfl, _, rfl, rfl, hs.cutG 0 0⟩ }
          {
          intro ρ w Γx Λx hs hu hp
          refine WL.move (v := .int .i64 x20) ((hu 5 rfl).trans h60_5) ?_
          exact WL.nil ⟨rfl, _, rfl, rfl, hs.cutG 0 0⟩ }
          {
          intro ρ w Γx Λx hs hu hp
          have e102 : ρ 84 = .slice a2 x1.length c3 := (hp 0 rfl).1
          have e103 : ρ 85 = .int .i64 x20 := (hp 1 rfl).1
          refine WL.indexAddr hs (Γx.length + 2) (getApp rfl) UN29 TI3 e102 e103 hxx90 (fun ad91 hs => ?_)
          have hs := hs.add (it := pl (tInt .i64) x90 ad91) fun ok hA => hA.get 0 rfl
          exact WL.nil ⟨rfl, _, rfl, ⟨ad91, rfl⟩, hs.cutG 1 1⟩ }
          {
          intro ρ w Γx Λx hs hu hp
          obtain ⟨⟨ad104, e105r⟩, hm106⟩ := hp 2 rfl
          have e105 : ρ 86 = .pointer (some ad104) := e105r
          rw [e105r] at hm106
          have hs := hs.memo1 (it := pl (tInt .i64) x90 ad104) (List.mem_append.2 (.inl (hm106 _ (List.mem_of_getElem? (i := 0) rfl))))
          refine WL.loadP hs 0 rfl TI3 (.inr rfl) e105 (fun v92 hs => ?_)
          obtain rfl := hs.int 0 rfl
          exact WL.nil ⟨rfl, _, rfl, rfl, hs.cutG 0 2⟩ }
          {
          intro ρ w Γx Λx hs hu hp
          refine WL.move (v := .slice a2 x1.length c3) ((hu 0 rfl).trans h60_0) ?_
          exact WL.nil ⟨rfl, _, rfl, rfl, hs.cutG 0 0⟩ }
          {
          intro ρ w Γx Λx hs hu hp
          refine WL.move (v := .int .i64 x20) ((hu 5 rfl).trans h60_5) ?_
          exact WL.nil ⟨rfl, _, rfl, rfl, hs.cutG 0 0⟩ }
          {
          intro ρ w Γx Λx hs hu hp
          have e107 : ρ 88 = .slice a2 x1.length c3 := (hp 4 rfl).1
          have e108 : ρ 89 = .int .i64 x20 := (hp 5 rfl).1
          refine WL.indexAddr hs (Γx.length + 2) (getApp rfl) UN29 TI3 e107 e108 hxx93 (fun ad94 hs => ?_)
          have hs := hs.add (it := pl (tInt .i64) x93 ad94) fun ok hA => hA.get 0 rfl
          exact WL.nil ⟨rfl, _, rfl, ⟨ad94, rfl⟩, hs.cutG 1 1⟩ }
          {
          intro ρ w Γx Λx hs hu hp
          obtain ⟨⟨ad109, e110r⟩, hm111⟩ := hp 6 rfl
          have e110 : ρ 90 = .pointer (some ad109) := e110r
          rw [e110r] at hm111
          have hs := hs.memo1 (it := pl (tInt .i64) x93 ad109) (List.mem_append.2 (.inl (hm111 _ (List.mem_of_getElem? (i := 0) rfl))))
          refine WL.loadP hs 0 rfl TI3 (.inr rfl) e110 (fun v95 hs => ?_)
          obtain rfl := hs.int 0 rfl
          exact WL.nil ⟨rfl, _, rfl, rfl, hs.cutG 0 2⟩ }
          {
          intro ρ w Γx Λx hs hu hp
          have e112 : ρ 91 = .int .i64 x93 := (hp 7 rfl).1
          refine WL.call (vs := [.int .i64 x93, .int .i64 2, .int .i64 9]) hs FN39 ⟨e112, ⟨rfl, ⟨rfl, trivial⟩⟩⟩ (fun ok hA => eslaw00_Digit.calls (x1 := x93) (x2 := 2) (x3 := 9) hxx96) ?_
          rintro _ w hs
          exact WL.nil ⟨rfl, _, rfl, rfl, hs.cutG 0 0⟩ }
          {
          intro ρ w Γx Λx hs hu hp
          have e113 : ρ 92 = .int .i64 x96 := (hp 8 rfl).1
          refine WL.bin (v := .bool (x96 == 1)) e113 rfl (ib_eql _ _ _) ?_
          exact WL.nil ⟨rfl, _, rfl, rfl, hs.cutG 0 0⟩ }
          {
          intro ρ w Γx Λx hs hu hp
          have e114 : ρ 87 = .int .i64 x90 := (hp 3 rfl).1
          have e115 : ρ 93 = .bool (x96 == 1) := (hp 9 rfl).1
          refine WL.call (vs := [.int .i64 x90, .bool (x96 == 1)]) hs FN40 ⟨e114, ⟨e115, trivial⟩⟩ (fun ok hA => eslaw00_Effect.calls (x1 := x90) (x2 := (x96 == 1)) hxx97) ?_
          rintro cs98 w hs
          have hl99 := hs.agglen (n := 5) 0 rfl rfl rfl
          have hs := hs.add (it := vl t_api_Effect x97 (.agg cs98.toArray)) fun ok hA => hA.get 0 rfl
          exact WL.nil ⟨rfl, _, rfl, ⟨cs98, rfl⟩, hs.cutG 1 1⟩ }
          {
          intro ρ w Γx Λx hs hu hp
          obtain ⟨⟨cs116, e118r⟩, hm119⟩ := hp 10 rfl
          have e118 : ρ 94 = .agg cs116.toArray := e118r
          rw [e118r] at hm119
          have hs := hs.memo1 (it := vl t_api_Effect x97 (.agg cs116.toArray)) (List.mem_append.2 (.inl (hm119 _ (List.mem_of_getElem? (i := 0) rfl))))
          have hl117 := hs.agglen (n := 5) 0 rfl rfl rfl
          refine WL.buildSliceB (ys := [x97]) (n := 1) (vs := [(0, .agg cs116.toArray)]) (cs := cs116) hs ⟨⟨rfl, e118⟩, trivial⟩ (bls PS30 (by decide) (by simp [fillS, fillL, Value.cells, hl117])) (fun ok hA => (Cells.one (T := t_api_Effect) (R_agg (hA.get 0 rfl) rfl))) rfl (by decide) (fun a101 w hBl hs => ?_)
          have hs := hs.add (it := vl (tSlice t_api_Effect) [x97] (.slice a101 ([x97]).length 1)) fun ok hA => hA.get 0 rfl
          exact WL.nil ⟨rfl, _, rfl, ⟨(a101, 1), rfl⟩, hs.cutG 1 2⟩ }
          {
          intro ρ w Γx Λx hs hu hp
          refine WL.fieldAddr (m := 2) (hu 9 rfl) FA35_2 rfl ?_
          exact WL.nil ⟨rfl, _, rfl, rfl, hs.cutG 0 0⟩ }
          {
          intro ρ w hs hu120 hp
          obtain ⟨⟨⟨⟨⟨⟨⟨⟨⟨⟨⟨⟨⟨_, hp0_⟩, hp1_⟩, hp2_⟩, hp3_⟩, hp4_⟩, hp5_⟩, hp6_⟩, hp7_⟩, hp8_⟩, hp9_⟩, hp10_⟩, hp11_⟩, hp12_⟩ := hp
          have hs : St ok (bz w0) w [vl (tSlice t_api_Effect) [x97] (ρ 95), vl t_api_Effect x97 (ρ 94), pl (tInt .i64) x93 (adOf (ρ 90)), pl (tInt .i64) x90 (adOf (ρ 86)), vl (tInt .i64) x70 (.int .i64 x70), pl (tInt .i64) x70 ad71, vl (tSlice (tInt .i64)) x1 (.slice a2 x1.length c3)] [blk g75 35 [.int .i64 x48, .int .i64 x74, .slice none 0 0, .slice none 0 0, .int .i64 x42, .int .i64 0], own t_history_Operation 35 (.slice a22 n24 c23) x21, blk g7 24 [.slice a22 n24 c23], blk g5 24 [.slice none 0 0]] := hs
          have e121 : ρ 96 = .pointer (some ⟨g75, 2, none⟩) := hp12_
          obtain ⟨⟨a122, c123⟩, e124⟩ := hp11_
          have e124 : ρ 95 = .slice a122 ([x97]).length c123 := e124
          try rw [e124] at hs
          obtain ⟨cs125, e127⟩ := hp10_
          have e127 : ρ 94 = .agg cs125.toArray := e127
          try rw [e127] at hs
          have e128 : ρ 93 = .bool (x96 == 1) := hp9_
          have e129 : ρ 92 = .int .i64 x96 := hp8_
          have e130 : ρ 91 = .int .i64 x93 := hp7_
          obtain ⟨ad131, e132⟩ := hp6_
          have e132 : ρ 90 = .pointer (some ad131) := e132
          try rw [e132] at hs
          have e133 : ρ 89 = .int .i64 x20 := hp5_
          have e134 : ρ 88 = .slice a2 x1.length c3 := hp4_
          have e135 : ρ 87 = .int .i64 x90 := hp3_
          obtain ⟨ad136, e137⟩ := hp2_
          have e137 : ρ 86 = .pointer (some ad136) := e137
          try rw [e137] at hs
          have e138 : ρ 85 = .int .i64 x20 := hp1_
          have e139 : ρ 84 = .slice a2 x1.length c3 := hp0_
          have hl126 := hs.agglen (n := 5) 1 rfl rfl rfl
          refine WA.step [13] (by kernel_rfl) (by simp) ⟨?_, trivial⟩
          refine WL.store (vs := [.slice a122 ([x97]).length c123]) (cs' := [.int .i64 x48, .int .i64 x74, .slice a122 ([x97]).length c123, .slice none 0 0, .int .i64 x42, .int .i64 0]) hs 0 rfl TI30 e121 e124 rfl rfl (ones_of rfl) (Nat.le_of_ble_eq_true rfl) rfl (fun w hs => ?_)
          refine WL.nil ⟨rfl, _, rfl, ?_⟩
          refine WA.done (by kernel_rfl) ?_
          exact Jk81 [x97] a122 c123 _ _ ((hu120 0 rfl).trans h60_0) ((hu120 2 rfl).trans h60_2) ((hu120 3 rfl).trans h60_3) ((hu120 4 rfl).trans h60_4) ((hu120 5 rfl).trans h60_5) (hu120 9 rfl) ((hs.mask [true, true, true, true]).pick [6, 0]) hf } }
          {
          refine W.cond_false (bool_tr rfl hc89) ?_
          refine W.skip ?_
          have hs := hs.add (it := vl (tSlice t_api_Effect) [] (.slice none 0 0)) fun ok hA => V_nil
          exact Jk81 [] none 0 _ _ h60_0 h60_2 h60_3 h60_4 h60_5 rfl ((hs.mask [true, true, true, true]).pick [3, 0]) hf } }
        refine W.region ?_
        refine WL.move (v := .int .i64 x56) h55_7 ?_
        refine WL.bin (v := .bool (decide (0 ≤ x56))) rfl rfl (ib_geq _ _ _) ?_
        refine WL.move (v := .bool (decide (0 ≤ x56))) rfl ?_
        rcases iteE hf with ⟨hc140, hf⟩ | ⟨hc140, hf⟩
        {
        refine WL.move (v := .slice a2 x1.length c3) h55_0 ?_ (hg := (wanted_of rfl rfl (bool_tr rfl hc140)).trans rfl)
        refine WL.move (v := .int .i64 x20) h55_5 ?_ (hg := (wanted_of rfl rfl (bool_tr rfl hc140)).trans rfl)
        obtain ⟨x141, hxx141, hf⟩ := bindE hf
        refine WL.indexAddr hs 0 rfl UN29 TI3 rfl rfl hxx141 (fun ad142 hs => ?_) (hg := (wanted_of rfl rfl (bool_tr rfl hc140)).trans rfl)
        refine WL.loadP hs 0 rfl TI3 (.inr rfl) rfl (fun v143 hs => ?_) (hg := (wanted_of rfl rfl (bool_tr rfl hc140)).trans rfl)
        obtain rfl := hs.int 0 rfl
        obtain ⟨x144, hxx144, hf⟩ := bindE hf
        refine WL.call (vs := [.int .i64 x141, .int .i64 8, .int .i64 3]) hs FN39 ⟨rfl, ⟨rfl, ⟨rfl, trivial⟩⟩⟩ (fun ok hA => eslaw00_Digit.calls (x1 := x141) (x2 := 8) (x3 := 3) hxx144) ?_ (hg := (wanted_of rfl rfl (bool_tr rfl hc140)).trans rfl)
        rintro _ w hs
        refine WL.bin (v := .bool (decide (0 < x144))) rfl rfl (ib_gtr _ _ _) ?_ (hg := (wanted_of rfl rfl (bool_tr rfl hc140)).trans rfl)
        refine WL.pickT (v := .bool (decide (0 < x144))) (bool_tr rfl hc140) rfl ?_
        refine WL.nil ?_
        exact Jk62 (decide (0 < x144)) _ _ h55_0 h55_2 h55_3 h55_4 h55_5 h55_6 h55_7 rfl ((hs.mask [true, true, true]).pick [2]) hf }
        {
        refine WL.pass ((wanted_of rfl rfl (bool_tr rfl hc140)).trans rfl) rfl ?_
        refine WL.pass ((wanted_of rfl rfl (bool_tr rfl hc140)).trans rfl) rfl ?_
        refine WL.pass ((wanted_of rfl rfl (bool_tr rfl hc140)).trans rfl) rfl ?_
        refine WL.pass ((wanted_of rfl rfl (bool_tr rfl hc140)).trans rfl) rfl ?_
        refine WL.pass ((wanted_of rfl rfl (bool_tr rfl hc140)).trans rfl) rfl ?_
        refine WL.pass ((wanted_of rfl rfl (bool_tr rfl hc140)).trans rfl) rfl ?_
        refine WL.pickF (v := .bool false) (bool_tr rfl hc140) rfl ?_
        refine WL.nil ?_
        exact Jk62 false _ _ h55_0 h55_2 h55_3 h55_4 h55_5 h55_6 h55_7 rfl ((hs.mask [true, true, true]).pick [0]) hf }
      refine W.seqK fun K145 hK145 => ?_
      have Jk148 : ∀ (x147 : Bool) (ρ : Env) (w : World), ρ 0 = .slice a2 x1.length c3 → ρ 2 = .pointer (some ⟨g5, 0, none⟩) → ρ 3 = .pointer (some ⟨g7, 0, none⟩) → ρ 4 = .int .i64 x42 → ρ 5 = .int .i64 x20 → ρ 6 = .int .i64 x48 → ρ 7 = .int .i64 x52 → ρ 55 = .bool x147 → St ok (bz w0) w [vl (tSlice (tInt .i64)) x1 (.slice a2 x1.length c3)] [own t_history_Operation 35 (.slice a22 n24 c23) x21, blk g7 24 [.slice a22 n24 c23], blk g5 24 [.slice none 0 0]] → eslaw38_Times.j6 x1 x20 x21 x42 x48 x52 x147 = some os25 → K145 ρ w := by
        intro x147 ρ w h146_0 h146_2 h146_3 h146_4 h146_5 h146_6 h146_7 h146_55 hs hf
        refine hK145 _ _ ?_
        unfold eslaw38_Times.j6 at hf
        rcases iteE hf with ⟨hc149, hf⟩ | ⟨hc149, hf⟩
        {
        refine W.cond_true (bool_tr h146_55 hc149) ?_
        refine W.region ?_
        refine WL.assign (v := .int .i64 (-1)) rfl ?_
        refine WL.nil ?_
        exact Jk57 (-1) _ _ h146_0 h146_2 h146_3 h146_4 h146_5 h146_6 rfl ((hs.mask [true, true, true]).pick [0]) hf }
        {
        refine W.cond_false (bool_tr h146_55 hc149) ?_
        refine W.skip ?_
        exact Jk57 x52 _ _ h146_0 h146_2 h146_3 h146_4 h146_5 h146_6 h146_7 ((hs.mask [true, true, true]).pick [0]) hf }
      refine W.region ?_
      refine WL.move (v := .int .i64 x52) h51_7 ?_
      refine WL.bin (v := .bool (decide (0 ≤ x52))) rfl rfl (ib_geq _ _ _) ?_
      refine WL.move (v := .bool (decide (0 ≤ x52))) rfl ?_
      rcases iteE hf with ⟨hc150, hf⟩ | ⟨hc150, hf⟩
      {
      refine WL.fieldAddr (m := 0) h51_3 FA24_0 rfl ?_ (hg := (wanted_of rfl rfl (bool_tr rfl hc150)).trans rfl)
      refine WL.load1 (v := .slice a22 n24 c23) hs 1 rfl TI22 rfl rfl ?_ (hg := (wanted_of rfl rfl (bool_tr rfl hc150)).trans rfl)
      refine WL.move (v := .int .i64 x52) h51_7 ?_ (hg := (wanted_of rfl rfl (bool_tr rfl hc150)).trans rfl)
      obtain ⟨x151, hxx151, hf⟩ := bindE hf
      refine WL.indexAddrO hs 0 rfl UN22 TI35 rfl rfl hxx151 (fun ad152 hatad152 => ?_) (hg := (wanted_of rfl rfl (bool_tr rfl hc150)).trans rfl)
      refine WL.fieldAddrO (OwnAt.f hatad152) rfl FA35_5 rfl (fun ad153 hatad153 => ?_) (hg := (wanted_of rfl rfl (bool_tr rfl hc150)).trans rfl)
      refine WL.loadOF (z := x151.Return) F_history_Operation_Return hs 0 rfl TI3 (.inr rfl) hatad153 hxx151 rfl rfl (fun v154 hs => ?_) (hg := (wanted_of rfl rfl (bool_tr rfl hc150)).trans rfl)
      obtain rfl := hs.int 0 rfl
      refine WL.bin (v := .bool (x151.Return != 0)) rfl rfl (ib_neq _ _ _) ?_ (hg := (wanted_of rfl rfl (bool_tr rfl hc150)).trans rfl)
      refine WL.pickT (v := .bool (x151.Return != 0)) (bool_tr rfl hc150) rfl ?_
      refine WL.nil ?_
      exact Jk148 (x151.Return != 0) _ _ h51_0 h51_2 h51_3 h51_4 h51_5 h51_6 h51_7 rfl ((hs.mask [true, true, true]).pick [1]) hf }
      {
      refine WL.pass ((wanted_of rfl rfl (bool_tr rfl hc150)).trans rfl) rfl ?_
      refine WL.pass ((wanted_of rfl rfl (bool_tr rfl hc150)).trans rfl) rfl ?_
      refine WL.pass ((wanted_of rfl rfl (bool_tr rfl hc150)).trans rfl) rfl ?_
      refine WL.pass ((wanted_of rfl rfl (bool_tr rfl hc150)).trans rfl) rfl ?_
      refine WL.pass ((wanted_of rfl rfl (bool_tr rfl hc150)).trans rfl) rfl ?_
      refine WL.pass ((wanted_of rfl rfl (bool_tr rfl hc150)).trans rfl) rfl ?_
      refine WL.pass ((wanted_of rfl rfl (bool_tr rfl hc150)).trans rfl) rfl ?_
      refine WL.pickF (v := .bool false) (bool_tr rfl hc150) rfl ?_
      refine WL.nil ?_
      exact Jk148 false _ _ h51_0 h51_2 h51_3 h51_4 h51_5 h51_6 h51_7 rfl ((hs.mask [true, true, true]).pick [0]) hf }
    refine W.seqK fun K155 hK155 => ?_
    refine W.region ?_
    refine WL.assign (v := .int .i64 0) rfl ?_
    refine WL.nil ?_
    refine hK155 _ _ ?_
    refine W.block ?_
    obtain ⟨bs159, hbs159, hfs159⟩ := bindE hf
    refine W.loop hbs159 (fun s ρ w => match s with | (x157, x158) => ρ 0 = .slice a2 x1.length c3 ∧ ρ 2 = .pointer (some ⟨g5, 0, none⟩) ∧ ρ 3 = .pointer (some ⟨g7, 0, none⟩) ∧ ρ 4 = .int .i64 x42 ∧ ρ 5 = .int .i64 x20 ∧ ρ 6 = .int .i64 x48 ∧ ρ 7 = .int .i64 x157 ∧ ρ 8 = .int .i64 x158 ∧ St ok (bz w0) w [vl (tSlice (tInt .i64)) x1 (.slice a2 x1.length c3)] [own t_history_Operation 35 (.slice a22 n24 c23) x21, blk g7 24 [.slice a22 n24 c23], blk g5 24 [.slice none 0 0]]) ⟨h28_0, h28_2, h28_3, rfl, h28_5, rfl, rfl, rfl, (hs.mask [true, true, true]).pick [2]⟩ ?_
    intro s ρ w os159 hI hf hbbs159
    obtain ⟨x157, x158⟩ := s
    obtain ⟨h156_0, h156_2, h156_3, h156_4, h156_5, h156_6, h156_7, h156_8, hs⟩ := hI
    unfold eslaw38_Times.l1 at hf
    refine W.seqK fun K160 hK160 => ?_
    refine W.seqK fun K161 hK161 => ?_
    refine W.region ?_
    refine WL.move (v := .int .i64 x158) h156_8 ?_
    refine WL.fieldAddr (m := 0) h156_3 FA24_0 rfl ?_
    refine WL.load1 (v := .slice a22 n24 c23) hs 1 rfl TI22 rfl rfl ?_
    refine WL.len (v := .slice a22 n24 c23) rfl (len_own hs 0 rfl UN22) ?_
    refine WL.bin (v := .bool (decide (x158 < (x21.length : Int)))) rfl rfl (ib_lss _ _ _) ?_
    refine WL.nil ?_
    refine hK161 _ _ ?_
    rcases iteE hf with ⟨hc162, hf⟩ | ⟨hc162, hf⟩
    {
    refine W.cond_true (bool_tr rfl hc162) ?_
    refine W.skip ?_
    refine hK160 _ _ ?_
    refine W.seqK fun K163 hK163 => ?_
    have Jk166 : ∀ (x165 : Int) (ρ : Env) (w : World), ρ 0 = .slice a2 x1.length c3 → ρ 2 = .pointer (some ⟨g5, 0, none⟩) → ρ 3 = .pointer (some ⟨g7, 0, none⟩) → ρ 4 = .int .i64 x42 → ρ 5 = .int .i64 x20 → ρ 6 = .int .i64 x48 → ρ 7 = .int .i64 x165 → ρ 8 = .int .i64 x158 → St ok (bz w0) w [vl (tSlice (tInt .i64)) x1 (.slice a2 x1.length c3)] [own t_history_Operation 35 (.slice a22 n24 c23) x21, blk g7 24 [.slice a22 n24 c23], blk g5 24 [.slice none 0 0]] → eslaw38_Times.j8 x158 x165 = some os159 → K163 ρ w := by
      intro x165 ρ w h164_0 h164_2 h164_3 h164_4 h164_5 h164_6 h164_7 h164_8 hs hf
      refine hK163 _ _ ?_
      unfold eslaw38_Times.j8 at hf
      refine W.region ?_
      refine WL.move (v := .int .i64 x158) h164_8 ?_
      obtain ⟨x167, ex167, hf⟩ := letE hf
      refine WL.bin (v := .int .i64 x167) rfl rfl (ib_as ex167 (ib_add _ _ _)) ?_
      refine WL.assign (v := .int .i64 x167) rfl ?_
      refine WL.nil ?_
      exact ⟨_, (Option.some.inj hf).symm, h164_0, h164_2, h164_3, h164_4, h164_5, h164_6, h164_7, rfl, (hs.mask [true, true, true]).pick [0]⟩
    refine W.block ?_
    refine W.seqK fun K168 hK168 => ?_
    refine W.region ?_
    refine WL.fieldAddr (m := 0) h156_3 FA24_0 rfl ?_
    refine WL.load1 (v := .slice a22 n24 c23) hs 1 rfl TI22 rfl rfl ?_
    refine WL.move (v := .int .i64 x158) h156_8 ?_
    obtain ⟨x169, hxx169, hf⟩ := bindE hf
    refine WL.indexAddrO hs 0 rfl UN22 TI35 rfl rfl hxx169 (fun ad170 hatad170 => ?_)
    refine WL.fieldAddrO (OwnAt.f hatad170) rfl FA35_0 rfl (fun ad171 hatad171 => ?_)
    refine WL.loadOF (z := x169.Process) F_history_Operation_Process hs 0 rfl TI3 (.inr rfl) hatad171 hxx169 rfl rfl (fun v172 hs => ?_)
    obtain rfl := hs.int 0 rfl
    refine WL.move (v := .int .i64 x48) h156_6 ?_
    refine WL.bin (v := .bool (x169.Process == x48)) rfl rfl (ib_eql _ _ _) ?_
    refine WL.nil ?_
    refine hK168 _ _ ?_
    rcases iteE hf with ⟨hc173, hf⟩ | ⟨hc173, hf⟩
    {
    refine W.cond_true (bool_tr rfl hc173) ?_
    refine W.region ?_
    refine WL.move (v := .int .i64 x158) h156_8 ?_
    refine WL.assign (v := .int .i64 x158) rfl ?_
    refine WL.nil ?_
    exact Jk166 x158 _ _ h156_0 h156_2 h156_3 h156_4 h156_5 h156_6 rfl h156_8 ((hs.mask [true, true, true]).pick [1]) hf }
    {
    refine W.cond_false (bool_tr rfl hc173) ?_
    refine W.skip ?_
    exact Jk166 x157 _ _ h156_0 h156_2 h156_3 h156_4 h156_5 h156_6 h156_7 h156_8 ((hs.mask [true, true, true]).pick [1]) hf } }
    {
    refine W.cond_false (bool_tr rfl hc162) ?_
    refine W.exit ?_
    have hr := Option.some.inj hf; subst hr
    have hr := hbbs159 _ rfl; subst hr
    have hf := hfs159
    exact Jk53 x157 _ _ h156_0 h156_2 h156_3 h156_4 h156_5 h156_6 h156_7 ((hs.mask [true, true, true]).pick [0]) hf } }
    {
    refine W.cond_false (bool_tr h28_18 hc31) ?_
    refine W.exit ?_
    have hr := Option.some.inj hf; subst hr
    have hr := hbbs25 _ rfl; subst hr
    have hf := hfs25
    exact Jk15 x21 a22 c23 n24 _ _ h28_2 h28_3 ((hs.mask [true, true, true]).pick []) hf }
  refine W.region ?_
  refine WL.move (v := .int .i64 x20) h18_5 ?_
  refine WL.move (v := .slice a2 x1.length c3) h18_0 ?_
  refine WL.len (v := .slice a2 x1.length c3) rfl (len_slice UN29) ?_
  refine WL.bin (v := .bool (decide (x20 < (x1.length : Int)))) rfl rfl (ib_lss _ _ _) ?_
  refine WL.move (v := .bool (decide (x20 < (x1.length : Int)))) rfl ?_
  rcases iteE hf with ⟨hc175, hf⟩ | ⟨hc175, hf⟩
  {
  refine WL.move (v := .int .i64 x20) h18_5 ?_ (hg := (wanted_of rfl rfl (bool_tr rfl hc175)).trans rfl)
  refine WL.bin (v := .bool (decide (x20 < 40))) rfl rfl (ib_lss _ _ _) ?_ (hg := (wanted_of rfl rfl (bool_tr rfl hc175)).trans rfl)
  refine WL.pickT (v := .bool (decide (x20 < 40))) (bool_tr rfl hc175) rfl ?_
  refine WL.nil ?_
  exact Jk30 (decide (x20 < 40)) _ _ h18_0 h18_2 h18_3 h18_4 h18_5 rfl ((hs.mask [true, true, true]).pick [0]) hf }
  {
  refine WL.pass ((wanted_of rfl rfl (bool_tr rfl hc175)).trans rfl) rfl ?_
  refine WL.pass ((wanted_of rfl rfl (bool_tr rfl hc175)).trans rfl) rfl ?_
  refine WL.pickF (v := .bool false) (bool_tr rfl hc175) rfl ?_
  refine WL.nil ?_
  exact Jk30 false _ _ h18_0 h18_2 h18_3 h18_4 h18_5 rfl ((hs.mask [true, true, true]).pick [0]) hf }
end Go.Proofs.Ytbbeobiampbddaa
