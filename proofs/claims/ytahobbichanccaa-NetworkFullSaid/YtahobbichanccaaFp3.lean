import Derived.Test.YtahobbichanccaaFh
import Derived.Test.YtahobbichanccaaFp0
import Derived.Test.YtahobbichanccaaFp1
import Derived.Test.YtahobbichanccaaFp2
set_option linter.unusedVariables false
set_option linter.unusedSimpArgs false
namespace Go.Proofs.Ytahobbichanccaa
open Go Go.RowKit Go.Proofs.YtahobbichanccaaL
set_option maxRecDepth 100000
set_option maxHeartbeats 4000000
/-! elasticstore/elasticstorelaw34.awake: function 8 -/
theorem eslaw34_awake.calls {ok : Nat → Prop} {w0 : World}   {r : Bool} (hf : eslaw34_awake = some r)  :
    Calls Try.prog 8 #[] w0 fun e w' => ∃ v, e = .returned v ∧ ∃ y : Unit, v = .bool r ∧ St ok (bz w0) w' [] [] := by
  unfold eslaw34_awake at hf
  refine calls_of_W (fn := Try.f8) (N := 84) Try.func8 rfl Try.ntmps8 rfl ?_
  have hs : St ok (bz w0) w0 [] [] := St.init All.nil
  refine W.seqK fun K1 hK1 => ?_
  refine W.region ?_
  refine WL.assign (v := .bool false) rfl ?_
  refine WL.nil ?_
  refine hK1 _ _ ?_
  refine W.seqK fun K2 hK2 => ?_
  refine W.region ?_
  obtain ⟨x3, hxx3, hf⟩ := bindE hf
  refine WL.call (vs := []) hs FN9 trivial (fun ok hA => network_New.calls hxx3) ?_
  rintro ⟨⟨a4, n5, c6⟩, ⟨a7, n8, c9⟩⟩ w hs
  refine WL.build (vs := [(0, .int .i64 1), (1, .int .i64 1), (2, .int .i64 2)]) (cs := [.int .i64 1, .int .i64 1, .int .i64 2, .int .i64 0, .int .i64 0, .int .i64 0, .int .i64 0, .slice none 0 0, .slice none 0 0, .slice none 0 0, .slice none 0 0, .bool false, .slice none 0 0, .slice none 0 0, .slice none 0 0, .slice none 0 0, .slice none 0 0, .bool false]) ⟨⟨rfl, rfl⟩, ⟨⟨rfl, rfl⟩, ⟨⟨rfl, rfl⟩, trivial⟩⟩⟩ (bld PL49 rfl) ?_
  refine WL.build (vs := [(0, .int .i64 2), (1, .int .i64 2), (2, .int .i64 3)]) (cs := [.int .i64 2, .int .i64 2, .int .i64 3, .int .i64 0, .int .i64 0, .int .i64 0, .int .i64 0, .slice none 0 0, .slice none 0 0, .slice none 0 0, .slice none 0 0, .bool false, .slice none 0 0, .slice none 0 0, .slice none 0 0, .slice none 0 0, .slice none 0 0, .bool false]) ⟨⟨rfl, rfl⟩, ⟨⟨rfl, rfl⟩, ⟨⟨rfl, rfl⟩, trivial⟩⟩⟩ (bld PL49 rfl) ?_
  refine WL.buildSlice (n := 2) (vs := [(0, .agg ([.int .i64 1, .int .i64 1, .int .i64 2, .int .i64 0, .int .i64 0, .int .i64 0, .int .i64 0, .slice none 0 0, .slice none 0 0, .slice none 0 0, .slice none 0 0, .bool false, .slice none 0 0, .slice none 0 0, .slice none 0 0, .slice none 0 0, .slice none 0 0, .bool false] : List Value).toArray), (1, .agg ([.int .i64 2, .int .i64 2, .int .i64 3, .int .i64 0, .int .i64 0, .int .i64 0, .int .i64 0, .slice none 0 0, .slice none 0 0, .slice none 0 0, .slice none 0 0, .bool false, .slice none 0 0, .slice none 0 0, .slice none 0 0, .slice none 0 0, .slice none 0 0, .bool false] : List Value).toArray)]) (cs := [.int .i64 1, .int .i64 1, .int .i64 2, .int .i64 0, .int .i64 0, .int .i64 0, .int .i64 0, .slice none 0 0, .slice none 0 0, .slice none 0 0, .slice none 0 0, .bool false, .slice none 0 0, .slice none 0 0, .slice none 0 0, .slice none 0 0, .slice none 0 0, .bool false, .int .i64 2, .int .i64 2, .int .i64 3, .int .i64 0, .int .i64 0, .int .i64 0, .int .i64 0, .slice none 0 0, .slice none 0 0, .slice none 0 0, .slice none 0 0, .bool false, .slice none 0 0, .slice none 0 0, .slice none 0 0, .slice none 0 0, .slice none 0 0, .bool false]) hs ⟨⟨rfl, rfl⟩, ⟨⟨rfl, rfl⟩, trivial⟩⟩ (bls PS30 (by decide) rfl) (fun g10 w hs => ?_)
  obtain rfl := hs.ownLen 1 rfl
  have hs := hs.freezeOwn 1 rfl
  obtain rfl := hs.ownLen 1 rfl
  have hs := hs.freezeOwn 1 rfl
  have hs := hs.add (it := vl t_network_Network (⟨x3.Next, x3.Packets, x3.Sides⟩ : network_Network) (.agg [.int .i64 x3.Next, .slice a4 (x3.Packets).length c6, .slice a7 (x3.Sides).length c9].toArray)) fun ok hA => V_agg (show t_network_Network.R ok _ _ _ from ⟨[.int .i64 x3.Next], [.slice a4 (x3.Packets).length c6, .slice a7 (x3.Sides).length c9], rfl, rfl, ⟨[.slice a4 (x3.Packets).length c6], [.slice a7 (x3.Sides).length c9], rfl, (R_one (hA.get 1 rfl)), (R_one (hA.get 0 rfl))⟩⟩) rfl
  have hs := hs.ownLit (A := t_api_Message) (xs := [(⟨1, 1, 2, (⟨0, 0⟩ : api_AccessID), 0, 0, (⟨[], []⟩ : api_Certificate), (⟨[], []⟩ : api_Certificate), false, (⟨[], []⟩ : api_Certificate), [], [], [], false⟩ : api_Message), (⟨2, 2, 3, (⟨0, 0⟩ : api_AccessID), 0, 0, (⟨[], []⟩ : api_Certificate), (⟨[], []⟩ : api_Certificate), false, (⟨[], []⟩ : api_Certificate), [], [], [], false⟩ : api_Message)]) 0 rfl (fun ok hA => (Cells.app (Cells.one (T := t_api_Message) (show t_api_Message.R ok _ (⟨1, 1, 2, (⟨0, 0⟩ : api_AccessID), 0, 0, (⟨[], []⟩ : api_Certificate), (⟨[], []⟩ : api_Certificate), false, (⟨[], []⟩ : api_Certificate), [], [], [], false⟩ : api_Message) _ from ⟨[.int .i64 1], [.int .i64 1, .int .i64 2, .int .i64 0, .int .i64 0, .int .i64 0, .int .i64 0, .slice none 0 0, .slice none 0 0, .slice none 0 0, .slice none 0 0, .bool false, .slice none 0 0, .slice none 0 0, .slice none 0 0, .slice none 0 0, .slice none 0 0, .bool false], rfl, rfl, ⟨[.int .i64 1], [.int .i64 2, .int .i64 0, .int .i64 0, .int .i64 0, .int .i64 0, .slice none 0 0, .slice none 0 0, .slice none 0 0, .slice none 0 0, .bool false, .slice none 0 0, .slice none 0 0, .slice none 0 0, .slice none 0 0, .slice none 0 0, .bool false], rfl, rfl, ⟨[.int .i64 2], [.int .i64 0, .int .i64 0, .int .i64 0, .int .i64 0, .slice none 0 0, .slice none 0 0, .slice none 0 0, .slice none 0 0, .bool false, .slice none 0 0, .slice none 0 0, .slice none 0 0, .slice none 0 0, .slice none 0 0, .bool false], rfl, rfl, ⟨[.int .i64 0, .int .i64 0], [.int .i64 0, .int .i64 0, .slice none 0 0, .slice none 0 0, .slice none 0 0, .slice none 0 0, .bool false, .slice none 0 0, .slice none 0 0, .slice none 0 0, .slice none 0 0, .slice none 0 0, .bool false], rfl, ⟨[.int .i64 0], [.int .i64 0], rfl, rfl, rfl⟩, ⟨[.int .i64 0], [.int .i64 0, .slice none 0 0, .slice none 0 0, .slice none 0 0, .slice none 0 0, .bool false, .slice none 0 0, .slice none 0 0, .slice none 0 0, .slice none 0 0, .slice none 0 0, .bool false], rfl, rfl, ⟨[.int .i64 0], [.slice none 0 0, .slice none 0 0, .slice none 0 0, .slice none 0 0, .bool false, .slice none 0 0, .slice none 0 0, .slice none 0 0, .slice none 0 0, .slice none 0 0, .bool false], rfl, rfl, ⟨[.slice none 0 0, .slice none 0 0], [.slice none 0 0, .slice none 0 0, .bool false, .slice none 0 0, .slice none 0 0, .slice none 0 0, .slice none 0 0, .slice none 0 0, .bool false], rfl, ⟨[.slice none 0 0], [.slice none 0 0], rfl, R_nil, R_nil⟩, ⟨[.slice none 0 0, .slice none 0 0], [.bool false, .slice none 0 0, .slice none 0 0, .slice none 0 0, .slice none 0 0, .slice none 0 0, .bool false], rfl, ⟨[.slice none 0 0], [.slice none 0 0], rfl, R_nil, R_nil⟩, ⟨[.bool false], [.slice none 0 0, .slice none 0 0, .slice none 0 0, .slice none 0 0, .slice none 0 0, .bool false], rfl, rfl, ⟨[.slice none 0 0, .slice none 0 0], [.slice none 0 0, .slice none 0 0, .slice none 0 0, .bool false], rfl, ⟨[.slice none 0 0], [.slice none 0 0], rfl, R_nil, R_nil⟩, ⟨[.slice none 0 0], [.slice none 0 0, .slice none 0 0, .bool false], rfl, R_nil, ⟨[.slice none 0 0], [.slice none 0 0, .bool false], rfl, R_nil, ⟨[.slice none 0 0], [.bool false], rfl, R_nil, rfl⟩⟩⟩⟩⟩⟩⟩⟩⟩⟩⟩⟩⟩)) (Cells.one (T := t_api_Message) (show t_api_Message.R ok _ (⟨2, 2, 3, (⟨0, 0⟩ : api_AccessID), 0, 0, (⟨[], []⟩ : api_Certificate), (⟨[], []⟩ : api_Certificate), false, (⟨[], []⟩ : api_Certificate), [], [], [], false⟩ : api_Message) _ from ⟨[.int .i64 2], [.int .i64 2, .int .i64 3, .int .i64 0, .int .i64 0, .int .i64 0, .int .i64 0, .slice none 0 0, .slice none 0 0, .slice none 0 0, .slice none 0 0, .bool false, .slice none 0 0, .slice none 0 0, .slice none 0 0, .slice none 0 0, .slice none 0 0, .bool false], rfl, rfl, ⟨[.int .i64 2], [.int .i64 3, .int .i64 0, .int .i64 0, .int .i64 0, .int .i64 0, .slice none 0 0, .slice none 0 0, .slice none 0 0, .slice none 0 0, .bool false, .slice none 0 0, .slice none 0 0, .slice none 0 0, .slice none 0 0, .slice none 0 0, .bool false], rfl, rfl, ⟨[.int .i64 3], [.int .i64 0, .int .i64 0, .int .i64 0, .int .i64 0, .slice none 0 0, .slice none 0 0, .slice none 0 0, .slice none 0 0, .bool false, .slice none 0 0, .slice none 0 0, .slice none 0 0, .slice none 0 0, .slice none 0 0, .bool false], rfl, rfl, ⟨[.int .i64 0, .int .i64 0], [.int .i64 0, .int .i64 0, .slice none 0 0, .slice none 0 0, .slice none 0 0, .slice none 0 0, .bool false, .slice none 0 0, .slice none 0 0, .slice none 0 0, .slice none 0 0, .slice none 0 0, .bool false], rfl, ⟨[.int .i64 0], [.int .i64 0], rfl, rfl, rfl⟩, ⟨[.int .i64 0], [.int .i64 0, .slice none 0 0, .slice none 0 0, .slice none 0 0, .slice none 0 0, .bool false, .slice none 0 0, .slice none 0 0, .slice none 0 0, .slice none 0 0, .slice none 0 0, .bool false], rfl, rfl, ⟨[.int .i64 0], [.slice none 0 0, .slice none 0 0, .slice none 0 0, .slice none 0 0, .bool false, .slice none 0 0, .slice none 0 0, .slice none 0 0, .slice none 0 0, .slice none 0 0, .bool false], rfl, rfl, ⟨[.slice none 0 0, .slice none 0 0], [.slice none 0 0, .slice none 0 0, .bool false, .slice none 0 0, .slice none 0 0, .slice none 0 0, .slice none 0 0, .slice none 0 0, .bool false], rfl, ⟨[.slice none 0 0], [.slice none 0 0], rfl, R_nil, R_nil⟩, ⟨[.slice none 0 0, .slice none 0 0], [.bool false, .slice none 0 0, .slice none 0 0, .slice none 0 0, .slice none 0 0, .slice none 0 0, .bool false], rfl, ⟨[.slice none 0 0], [.slice none 0 0], rfl, R_nil, R_nil⟩, ⟨[.bool false], [.slice none 0 0, .slice none 0 0, .slice none 0 0, .slice none 0 0, .slice none 0 0, .bool false], rfl, rfl, ⟨[.slice none 0 0, .slice none 0 0], [.slice none 0 0, .slice none 0 0, .slice none 0 0, .bool false], rfl, ⟨[.slice none 0 0], [.slice none 0 0], rfl, R_nil, R_nil⟩, ⟨[.slice none 0 0], [.slice none 0 0, .slice none 0 0, .bool false], rfl, R_nil, ⟨[.slice none 0 0], [.slice none 0 0, .bool false], rfl, R_nil, ⟨[.slice none 0 0], [.bool false], rfl, R_nil, rfl⟩⟩⟩⟩⟩⟩⟩⟩⟩⟩⟩⟩⟩)))) (by decide)
  have hs := hs.freezeOwn 0 rfl
  obtain ⟨x11, hxx11, hf⟩ := bindE hf
  refine WL.call (vs := [.agg ([.int .i64 x3.Next, .slice a4 (x3.Packets).length c6, .slice a7 (x3.Sides).length c9] : List Value).toArray, .slice (some ⟨g10, 0, none⟩) ([(⟨1, 1, 2, (⟨0, 0⟩ : api_AccessID), 0, 0, (⟨[], []⟩ : api_Certificate), (⟨[], []⟩ : api_Certificate), false, (⟨[], []⟩ : api_Certificate), [], [], [], false⟩ : api_Message), (⟨2, 2, 3, (⟨0, 0⟩ : api_AccessID), 0, 0, (⟨[], []⟩ : api_Certificate), (⟨[], []⟩ : api_Certificate), false, (⟨[], []⟩ : api_Certificate), [], [], [], false⟩ : api_Message)]).length 2]) hs FN10 ⟨rfl, ⟨rfl, trivial⟩⟩ (fun ok hA => network_Send.calls (x1 := (⟨x3.Next, x3.Packets, x3.Sides⟩ : network_Network)) (x5 := ([(⟨1, 1, 2, (⟨0, 0⟩ : api_AccessID), 0, 0, (⟨[], []⟩ : api_Certificate), (⟨[], []⟩ : api_Certificate), false, (⟨[], []⟩ : api_Certificate), [], [], [], false⟩ : api_Message), (⟨2, 2, 3, (⟨0, 0⟩ : api_AccessID), 0, 0, (⟨[], []⟩ : api_Certificate), (⟨[], []⟩ : api_Certificate), false, (⟨[], []⟩ : api_Certificate), [], [], [], false⟩ : api_Message)])) hxx11 (hA.get 1 rfl) (hA.get 0 rfl)) ?_
  rintro ⟨⟨a12, n13, c14⟩, ⟨a15, n16, c17⟩⟩ w hs
  refine WL.alloc hs ZV27 (fun g18 w hs => ?_)
  refine WL.storeAll (vs := [.int .i64 x11.Next, .slice a12 n13 c14, .slice a15 n16 c17]) hs 0 rfl TI27 rfl rfl rfl rfl (ones_of rfl) rfl (fun w hs => ?_)
  refine WL.nil ?_
  refine hK2 _ _ ?_
  refine W.seqK fun K19 hK19 => ?_
  refine W.region ?_
  refine WL.loadN (vs := [.int .i64 x11.Next, .slice a12 n13 c14, .slice a15 n16 c17]) hs 0 rfl TI27 rfl rfl rfl ?_
  refine WL.build (vs := [(0, .int .i64 1), (1, .int .i64 4)]) (cs := [.int .i64 1, .int .i64 4]) ⟨⟨rfl, rfl⟩, ⟨⟨rfl, rfl⟩, trivial⟩⟩ (bld PL69 rfl) ?_
  refine WL.buildSlice (n := 1) (vs := [(0, .agg ([.int .i64 1, .int .i64 4] : List Value).toArray)]) (cs := [.int .i64 1, .int .i64 4]) hs ⟨⟨rfl, rfl⟩, trivial⟩ (bls PS23 (by decide) rfl) (fun g20 w hs => ?_)
  obtain rfl := hs.ownLen 2 rfl
  have hs := hs.freezeOwn 2 rfl
  obtain rfl := hs.ownLen 2 rfl
  have hs := hs.freezeOwn 2 rfl
  have hs := hs.add (it := vl t_network_Network (⟨x11.Next, x11.Packets, x11.Sides⟩ : network_Network) (.agg [.int .i64 x11.Next, .slice a12 (x11.Packets).length c14, .slice a15 (x11.Sides).length c17].toArray)) fun ok hA => V_agg (show t_network_Network.R ok _ _ _ from ⟨[.int .i64 x11.Next], [.slice a12 (x11.Packets).length c14, .slice a15 (x11.Sides).length c17], rfl, rfl, ⟨[.slice a12 (x11.Packets).length c14], [.slice a15 (x11.Sides).length c17], rfl, (R_one (hA.get 1 rfl)), (R_one (hA.get 0 rfl))⟩⟩) rfl
  have hs := hs.ownLit (A := t_network_Side) (xs := [(⟨1, 4⟩ : network_Side)]) 0 rfl (fun ok hA => (Cells.one (T := t_network_Side) (show t_network_Side.R ok _ (⟨1, 4⟩ : network_Side) _ from ⟨[.int .i64 1], [.int .i64 4], rfl, rfl, rfl⟩))) (by decide)
  have hs := hs.freezeOwn 0 rfl
  obtain ⟨x21, hxx21, hf⟩ := bindE hf
  refine WL.call (vs := [.agg ([.int .i64 x11.Next, .slice a12 (x11.Packets).length c14, .slice a15 (x11.Sides).length c17] : List Value).toArray, .slice (some ⟨g20, 0, none⟩) ([(⟨1, 4⟩ : network_Side)]).length 1]) hs FN12 ⟨rfl, ⟨rfl, trivial⟩⟩ (fun ok hA => network_Partition.calls (x1 := (⟨x11.Next, x11.Packets, x11.Sides⟩ : network_Network)) (x5 := [(⟨1, 4⟩ : network_Side)]) hxx21 (hA.get 1 rfl) (hA.get 0 rfl)) ?_
  rintro ⟨⟨a22, n23, c24⟩, ⟨a25, n26, c27⟩⟩ w hs
  refine WL.alloc hs ZV27 (fun g28 w hs => ?_)
  refine WL.storeAll (vs := [.int .i64 x21.Next, .slice a22 n23 c24, .slice a25 n26 c27]) hs 0 rfl TI27 rfl rfl rfl rfl (ones_of rfl) rfl (fun w hs => ?_)
  refine WL.nil ?_
  refine hK19 _ _ ?_
  refine W.seqK fun K29 hK29 => ?_
  refine W.region ?_
  refine WL.loadN (vs := [.int .i64 x21.Next, .slice a22 n23 c24, .slice a25 n26 c27]) hs 0 rfl TI27 rfl rfl rfl ?_
  obtain rfl := hs.ownLen 1 rfl
  have hs := hs.freezeOwn 1 rfl
  obtain rfl := hs.ownLen 1 rfl
  have hs := hs.freezeOwn 1 rfl
  have hs := hs.add (it := vl t_network_Network (⟨x21.Next, x21.Packets, x21.Sides⟩ : network_Network) (.agg [.int .i64 x21.Next, .slice a22 (x21.Packets).length c24, .slice a25 (x21.Sides).length c27].toArray)) fun ok hA => V_agg (show t_network_Network.R ok _ _ _ from ⟨[.int .i64 x21.Next], [.slice a22 (x21.Packets).length c24, .slice a25 (x21.Sides).length c27], rfl, rfl, ⟨[.slice a22 (x21.Packets).length c24], [.slice a25 (x21.Sides).length c27], rfl, (R_one (hA.get 1 rfl)), (R_one (hA.get 0 rfl))⟩⟩) rfl
  obtain ⟨x30, hxx30, hf⟩ := bindE hf
  refine WL.call (vs := [.agg ([.int .i64 x21.Next, .slice a22 (x21.Packets).length c24, .slice a25 (x21.Sides).length c27] : List Value).toArray]) hs FN14 ⟨rfl, trivial⟩ (fun ok hA => network_Deliverable.calls (x1 := (⟨x21.Next, x21.Packets, x21.Sides⟩ : network_Network)) hxx30 (hA.get 0 rfl)) ?_
  rintro ⟨a31, n32, c33⟩ w hs
  refine WL.assign (v := .slice a31 n32 c33) rfl ?_
  refine WL.nil ?_
  refine hK29 _ _ ?_
  refine W.seqK fun K34 hK34 => ?_
  refine W.region ?_
  refine WL.loadN (vs := [.int .i64 x21.Next, .slice a22 (x21.Packets).length c24, .slice a25 (x21.Sides).length c27]) hs 1 rfl TI27 rfl rfl rfl ?_
  have hs := hs.add (it := vl t_network_Network (⟨x21.Next, x21.Packets, x21.Sides⟩ : network_Network) (.agg [.int .i64 x21.Next, .slice a22 (x21.Packets).length c24, .slice a25 (x21.Sides).length c27].toArray)) fun ok hA => V_agg (show t_network_Network.R ok _ _ _ from ⟨[.int .i64 x21.Next], [.slice a22 (x21.Packets).length c24, .slice a25 (x21.Sides).length c27], rfl, rfl, ⟨[.slice a22 (x21.Packets).length c24], [.slice a25 (x21.Sides).length c27], rfl, (R_one (hA.get 2 rfl)), (R_one (hA.get 1 rfl))⟩⟩) rfl
  obtain ⟨⟨x35, x36, x37⟩, hxx35, hf⟩ := bindE hf
  refine WL.call (vs := [.agg ([.int .i64 x21.Next, .slice a22 (x21.Packets).length c24, .slice a25 (x21.Sides).length c27] : List Value).toArray, .int .i64 1]) hs FN26 ⟨rfl, ⟨rfl, trivial⟩⟩ (fun ok hA => network_Deliver.calls (x1 := (⟨x21.Next, x21.Packets, x21.Sides⟩ : network_Network)) (x5 := 1) hxx35 (hA.get 0 rfl)) ?_
  rintro ⟨cs38, cs39⟩ w hs
  have hl40 := hs.agglen (n := 3) 0 rfl rfl rfl
  have hl41 := hs.agglen (n := 18) 1 rfl rfl rfl
  refine WL.move (v := .tuple #[.agg cs38.toArray, .agg cs39.toArray, .bool x37]) rfl ?_
  refine WL.extract (v := .agg cs38.toArray) rfl rfl ?_
  refine WL.extract (v := .agg cs39.toArray) rfl rfl ?_
  refine WL.extract (v := .bool x37) rfl rfl ?_
  refine WL.alloc hs ZV27 (fun g42 w hs => ?_)
  refine WL.alloc hs ZV49 (fun g43 w hs => ?_)
  refine WL.storeAll (vs := cs38) hs 1 rfl TI27 rfl rfl rfl hl40 (hs.ones 0 rfl rfl) rfl (fun w hs => ?_)
  refine WL.storeAll (vs := cs39) hs 0 rfl TI49 rfl rfl rfl hl41 (hs.ones 1 rfl rfl) rfl (fun w hs => ?_)
  refine WL.assign (v := .bool x37) rfl ?_
  refine WL.nil ?_
  refine hK34 _ _ ?_
  refine W.seqK fun K44 hK44 => ?_
  refine W.region ?_
  refine WL.loadN (vs := [.int .i64 x21.Next, .slice a22 (x21.Packets).length c24, .slice a25 (x21.Sides).length c27]) hs 3 rfl TI27 rfl rfl rfl ?_
  have hs := hs.add (it := vl t_network_Network (⟨x21.Next, x21.Packets, x21.Sides⟩ : network_Network) (.agg [.int .i64 x21.Next, .slice a22 (x21.Packets).length c24, .slice a25 (x21.Sides).length c27].toArray)) fun ok hA => V_agg (show t_network_Network.R ok _ _ _ from ⟨[.int .i64 x21.Next], [.slice a22 (x21.Packets).length c24, .slice a25 (x21.Sides).length c27], rfl, rfl, ⟨[.slice a22 (x21.Packets).length c24], [.slice a25 (x21.Sides).length c27], rfl, (R_one (hA.get 5 rfl)), (R_one (hA.get 4 rfl))⟩⟩) rfl
  obtain ⟨⟨x45, x46, x47⟩, hxx45, hf⟩ := bindE hf
  refine WL.call (vs := [.agg ([.int .i64 x21.Next, .slice a22 (x21.Packets).length c24, .slice a25 (x21.Sides).length c27] : List Value).toArray, .int .i64 2]) hs FN26 ⟨rfl, ⟨rfl, trivial⟩⟩ (fun ok hA => network_Deliver.calls (x1 := (⟨x21.Next, x21.Packets, x21.Sides⟩ : network_Network)) (x5 := 2) hxx45 (hA.get 0 rfl)) ?_
  rintro ⟨cs48, cs49⟩ w hs
  have hl50 := hs.agglen (n := 3) 0 rfl rfl rfl
  have hl51 := hs.agglen (n := 18) 1 rfl rfl rfl
  refine WL.move (v := .tuple #[.agg cs48.toArray, .agg cs49.toArray, .bool x47]) rfl ?_
  refine WL.extract (v := .agg cs48.toArray) rfl rfl ?_
  refine WL.extract (v := .agg cs49.toArray) rfl rfl ?_
  refine WL.extract (v := .bool x47) rfl rfl ?_
  refine WL.alloc hs ZV27 (fun g52 w hs => ?_)
  refine WL.alloc hs ZV49 (fun g53 w hs => ?_)
  refine WL.storeAll (vs := cs48) hs 1 rfl TI27 rfl rfl rfl hl50 (hs.ones 0 rfl rfl) rfl (fun w hs => ?_)
  refine WL.storeAll (vs := cs49) hs 0 rfl TI49 rfl rfl rfl hl51 (hs.ones 1 rfl rfl) rfl (fun w hs => ?_)
  refine WL.assign (v := .bool x47) rfl ?_
  refine WL.nil ?_
  refine hK44 _ _ ?_
  refine W.seqK fun K54 hK54 => ?_
  have Jk57 : ∀ (x56 : Bool) (ρ : Env) (w : World), ρ 0 = .bool x56 → St ok (bz w0) w [] [] → eslaw34_awake.j1 x56 = some r → K54 ρ w := by
    intro x56 ρ w h55_0 hs hf
    refine hK54 _ _ ?_
    unfold eslaw34_awake.j1 at hf
    refine W.ret ?_
    have hr := Option.some.inj hf; subst hr
    exact ⟨_, resOk_one rfl h55_0, (), rfl, (hs.mask []).pick []⟩
  refine W.region ?_
  refine WL.fieldAddr (m := 1) rfl FA27_1 rfl ?_
  refine WL.load1 (v := .slice a12 (x11.Packets).length c14) hs 6 rfl TI25 rfl rfl ?_
  refine WL.len (v := .slice a12 (x11.Packets).length c14) rfl (len_slice UN25) ?_
  refine WL.bin (v := .bool (((x11.Packets).length : Int) == 2)) rfl rfl (ib_eql _ _ _) ?_
  refine WL.move (v := .bool (((x11.Packets).length : Int) == 2)) rfl ?_
  rcases iteE hf with ⟨hc58, hf⟩ | ⟨hc58, hf⟩
  · refine WL.fieldAddr (m := 0) rfl FA27_0 rfl ?_ (hg := (wanted_of rfl rfl (bool_tr rfl hc58)).trans rfl)
    refine WL.load1 (v := .int .i64 x11.Next) hs 6 rfl TI3 rfl rfl ?_ (hg := (wanted_of rfl rfl (bool_tr rfl hc58)).trans rfl)
    refine WL.bin (v := .bool (x11.Next == 3)) rfl rfl (ib_eql _ _ _) ?_ (hg := (wanted_of rfl rfl (bool_tr rfl hc58)).trans rfl)
    refine WL.pickT (v := .bool (x11.Next == 3)) (bool_tr rfl hc58) rfl ?_
    refine WL.move (v := .bool (x11.Next == 3)) rfl ?_
    rcases iteE hf with ⟨hc59, hf⟩ | ⟨hc59, hf⟩
    · refine WL.move (v := .slice a31 n32 c33) rfl ?_ (hg := (wanted_of rfl rfl (bool_tr rfl hc59)).trans rfl)
      refine WL.len (v := .slice a31 n32 c33) rfl (len_own hs 4 rfl UN36) ?_ (hg := (wanted_of rfl rfl (bool_tr rfl hc59)).trans rfl)
      refine WL.bin (v := .bool ((x30.length : Int) == 1)) rfl rfl (ib_eql _ _ _) ?_ (hg := (wanted_of rfl rfl (bool_tr rfl hc59)).trans rfl)
      refine WL.pickT (v := .bool ((x30.length : Int) == 1)) (bool_tr rfl hc59) rfl ?_
      refine WL.move (v := .bool ((x30.length : Int) == 1)) rfl ?_
      rcases iteE hf with ⟨hc60, hf⟩ | ⟨hc60, hf⟩
      · refine WL.move (v := .slice a31 n32 c33) rfl ?_ (hg := (wanted_of rfl rfl (bool_tr rfl hc60)).trans rfl)
        obtain ⟨x61, hxx61, hf⟩ := bindE hf
        refine WL.indexAddrO hs 4 rfl UN36 TI3 rfl rfl hxx61 (fun ad62 hatad62 => ?_) (hg := (wanted_of rfl rfl (bool_tr rfl hc60)).trans rfl)
        refine WL.loadO hs 4 rfl TI3 (.inr rfl) hatad62 hxx61 rfl (fun v63 hs => ?_) (hg := (wanted_of rfl rfl (bool_tr rfl hc60)).trans rfl)
        obtain rfl := hs.int 0 rfl
        refine WL.bin (v := .bool (x61 == 2)) rfl rfl (ib_eql _ _ _) ?_ (hg := (wanted_of rfl rfl (bool_tr rfl hc60)).trans rfl)
        refine WL.pickT (v := .bool (x61 == 2)) (bool_tr rfl hc60) rfl ?_
        refine WL.move (v := .bool (x61 == 2)) rfl ?_
        rcases iteE hf with ⟨hc64, hf⟩ | ⟨hc64, hf⟩
        · refine WL.move (v := .bool x37) rfl ?_ (hg := (wanted_of rfl rfl (bool_tr rfl hc64)).trans rfl)
          refine WL.not rfl ?_ (hg := (wanted_of rfl rfl (bool_tr rfl hc64)).trans rfl)
          refine WL.pickT (v := .bool (!x37)) (bool_tr rfl hc64) rfl ?_
          refine WL.move (v := .bool (!x37)) rfl ?_
          rcases iteE hf with ⟨hc65, hf⟩ | ⟨hc65, hf⟩
          · refine WL.move (v := .bool x47) rfl ?_ (hg := (wanted_of rfl rfl (bool_tr rfl hc65)).trans rfl)
            refine WL.pickT (v := .bool x47) (bool_tr rfl hc65) rfl ?_
            refine WL.move (v := .bool x47) rfl ?_
            rcases iteE hf with ⟨hc66, hf⟩ | ⟨hc66, hf⟩
            · refine WL.fieldAddr (m := 0) rfl FA49_0 rfl ?_ (hg := (wanted_of rfl rfl (bool_tr rfl hc66)).trans rfl)
              refine WL.loadF (z := x46.Kind) F_api_Message_Kind hs 0 rfl 2 rfl rfl TI3 (.inr rfl) rfl rfl (fun v67 hs => ?_) (hg := (wanted_of rfl rfl (bool_tr rfl hc66)).trans rfl)
              obtain rfl := hs.int 0 rfl
              refine WL.bin (v := .bool (x46.Kind == 2)) rfl rfl (ib_eql _ _ _) ?_ (hg := (wanted_of rfl rfl (bool_tr rfl hc66)).trans rfl)
              refine WL.pickT (v := .bool (x46.Kind == 2)) (bool_tr rfl hc66) rfl ?_
              refine WL.move (v := .bool (x46.Kind == 2)) rfl ?_
              rcases iteE hf with ⟨hc68, hf⟩ | ⟨hc68, hf⟩
              · refine WL.fieldAddr (m := 1) rfl FA27_1 rfl ?_ (hg := (wanted_of rfl rfl (bool_tr rfl hc68)).trans rfl)
                refine WL.loadF (z := x45.Packets) F_network_Network_Packets hs 1 rfl 2 rfl rfl TI25 (.inr rfl) rfl rfl (fun v69 hs => ?_) (hg := (wanted_of rfl rfl (bool_tr rfl hc68)).trans rfl)
                obtain ⟨a70, c71, rfl⟩ := hs.slice 0 rfl
                refine WL.len (v := .slice a70 (x45.Packets).length c71) rfl (len_slice UN25) ?_ (hg := (wanted_of rfl rfl (bool_tr rfl hc68)).trans rfl)
                refine WL.bin (v := .bool (((x45.Packets).length : Int) == 1)) rfl rfl (ib_eql _ _ _) ?_ (hg := (wanted_of rfl rfl (bool_tr rfl hc68)).trans rfl)
                refine WL.pickT (v := .bool (((x45.Packets).length : Int) == 1)) (bool_tr rfl hc68) rfl ?_
                refine WL.move (v := .bool (((x45.Packets).length : Int) == 1)) rfl ?_
                rcases iteE hf with ⟨hc72, hf⟩ | ⟨hc72, hf⟩
                · refine WL.loadAll hs 1 rfl TI27 rfl hl50 ?_ (hg := (wanted_of rfl rfl (bool_tr rfl hc72)).trans rfl)
                  obtain ⟨x73, hxx73, hf⟩ := bindE hf
                  refine WL.call (vs := [.agg cs48.toArray]) hs FN15 ⟨rfl, trivial⟩ (fun ok hA => network_Heal.calls (x1 := x45) hxx73 (hA.get 3 rfl)) ?_ (hg := (wanted_of rfl rfl (bool_tr rfl hc72)).trans rfl)
                  rintro ⟨⟨a74, n75, c76⟩, ⟨a77, n78, c79⟩⟩ w hs
                  obtain rfl := hs.ownLen 0 rfl
                  have hs := hs.freezeOwn 0 rfl
                  obtain rfl := hs.ownLen 0 rfl
                  have hs := hs.freezeOwn 0 rfl
                  have hs := hs.add (it := vl t_network_Network (⟨x73.Next, x73.Packets, x73.Sides⟩ : network_Network) (.agg [.int .i64 x73.Next, .slice a74 (x73.Packets).length c76, .slice a77 (x73.Sides).length c79].toArray)) fun ok hA => V_agg (show t_network_Network.R ok _ _ _ from ⟨[.int .i64 x73.Next], [.slice a74 (x73.Packets).length c76, .slice a77 (x73.Sides).length c79], rfl, rfl, ⟨[.slice a74 (x73.Packets).length c76], [.slice a77 (x73.Sides).length c79], rfl, (R_one (hA.get 1 rfl)), (R_one (hA.get 0 rfl))⟩⟩) rfl
                  obtain ⟨x80, hxx80, hf⟩ := bindE hf
                  refine WL.call (vs := [.agg ([.int .i64 x73.Next, .slice a74 (x73.Packets).length c76, .slice a77 (x73.Sides).length c79] : List Value).toArray]) hs FN14 ⟨rfl, trivial⟩ (fun ok hA => network_Deliverable.calls (x1 := (⟨x73.Next, x73.Packets, x73.Sides⟩ : network_Network)) hxx80 (hA.get 0 rfl)) ?_ (hg := (wanted_of rfl rfl (bool_tr rfl hc72)).trans rfl)
                  rintro ⟨a81, n82, c83⟩ w hs
                  refine WL.len (v := .slice a81 n82 c83) rfl (len_own hs 0 rfl UN36) ?_ (hg := (wanted_of rfl rfl (bool_tr rfl hc72)).trans rfl)
                  refine WL.bin (v := .bool ((x80.length : Int) == 1)) rfl rfl (ib_eql _ _ _) ?_ (hg := (wanted_of rfl rfl (bool_tr rfl hc72)).trans rfl)
                  refine WL.pickT (v := .bool ((x80.length : Int) == 1)) (bool_tr rfl hc72) rfl ?_
                  refine WL.move (v := .bool ((x80.length : Int) == 1)) rfl ?_
                  rcases iteE hf with ⟨hc84, hf⟩ | ⟨hc84, hf⟩
                  · refine WL.fieldAddr (m := 1) rfl FA27_1 rfl ?_ (hg := (wanted_of rfl rfl (bool_tr rfl hc84)).trans rfl)
                    refine WL.load1 (v := .slice a22 (x21.Packets).length c24) hs 6 rfl TI25 rfl rfl ?_ (hg := (wanted_of rfl rfl (bool_tr rfl hc84)).trans rfl)
                    refine WL.len (v := .slice a22 (x21.Packets).length c24) rfl (len_slice UN25) ?_ (hg := (wanted_of rfl rfl (bool_tr rfl hc84)).trans rfl)
                    refine WL.bin (v := .bool (((x21.Packets).length : Int) == 2)) rfl rfl (ib_eql _ _ _) ?_ (hg := (wanted_of rfl rfl (bool_tr rfl hc84)).trans rfl)
                    refine WL.pickT (v := .bool (((x21.Packets).length : Int) == 2)) (bool_tr rfl hc84) rfl ?_
                    refine WL.assign (v := .bool (((x21.Packets).length : Int) == 2)) rfl ?_
                    refine WL.nil ?_
                    exact Jk57 (((x21.Packets).length : Int) == 2) _ _ rfl ((hs.mask []).pick []) hf
                  · refine WL.pass ((wanted_of rfl rfl (bool_tr rfl hc84)).trans rfl) rfl ?_
                    refine WL.pass ((wanted_of rfl rfl (bool_tr rfl hc84)).trans rfl) rfl ?_
                    refine WL.pass ((wanted_of rfl rfl (bool_tr rfl hc84)).trans rfl) rfl ?_
                    refine WL.pass ((wanted_of rfl rfl (bool_tr rfl hc84)).trans rfl) rfl ?_
                    refine WL.pickF (v := .bool false) (bool_tr rfl hc84) rfl ?_
                    refine WL.assign (v := .bool false) rfl ?_
                    refine WL.nil ?_
                    exact Jk57 false _ _ rfl ((hs.mask []).pick []) hf
                · refine WL.pass ((wanted_of rfl rfl (bool_tr rfl hc72)).trans rfl) rfl ?_
                  refine WL.pass ((wanted_of rfl rfl (bool_tr rfl hc72)).trans rfl) rfl ?_
                  refine WL.pass ((wanted_of rfl rfl (bool_tr rfl hc72)).trans rfl) rfl ?_
                  refine WL.pass ((wanted_of rfl rfl (bool_tr rfl hc72)).trans rfl) rfl ?_
                  refine WL.pass ((wanted_of rfl rfl (bool_tr rfl hc72)).trans rfl) rfl ?_
                  refine WL.pickF (v := .bool false) (bool_tr rfl hc72) rfl ?_
                  refine WL.move (v := .bool false) rfl ?_
                  refine WL.pass ((wanted_of rfl rfl rfl).trans rfl) rfl ?_
                  refine WL.pass ((wanted_of rfl rfl rfl).trans rfl) rfl ?_
                  refine WL.pass ((wanted_of rfl rfl rfl).trans rfl) rfl ?_
                  refine WL.pass ((wanted_of rfl rfl rfl).trans rfl) rfl ?_
                  refine WL.pickF (v := .bool false) rfl rfl ?_
                  refine WL.assign (v := .bool false) rfl ?_
                  refine WL.nil ?_
                  exact Jk57 false _ _ rfl ((hs.mask []).pick []) hf
              · refine WL.pass ((wanted_of rfl rfl (bool_tr rfl hc68)).trans rfl) rfl ?_
                refine WL.pass ((wanted_of rfl rfl (bool_tr rfl hc68)).trans rfl) rfl ?_
                refine WL.pass ((wanted_of rfl rfl (bool_tr rfl hc68)).trans rfl) rfl ?_
                refine WL.pass ((wanted_of rfl rfl (bool_tr rfl hc68)).trans rfl) rfl ?_
                refine WL.pickF (v := .bool false) (bool_tr rfl hc68) rfl ?_
                refine WL.move (v := .bool false) rfl ?_
                refine WL.pass ((wanted_of rfl rfl rfl).trans rfl) rfl ?_
                refine WL.pass ((wanted_of rfl rfl rfl).trans rfl) rfl ?_
                refine WL.pass ((wanted_of rfl rfl rfl).trans rfl) rfl ?_
                refine WL.pass ((wanted_of rfl rfl rfl).trans rfl) rfl ?_
                refine WL.pass ((wanted_of rfl rfl rfl).trans rfl) rfl ?_
                refine WL.pickF (v := .bool false) rfl rfl ?_
                refine WL.move (v := .bool false) rfl ?_
                refine WL.pass ((wanted_of rfl rfl rfl).trans rfl) rfl ?_
                refine WL.pass ((wanted_of rfl rfl rfl).trans rfl) rfl ?_
                refine WL.pass ((wanted_of rfl rfl rfl).trans rfl) rfl ?_
                refine WL.pass ((wanted_of rfl rfl rfl).trans rfl) rfl ?_
                refine WL.pickF (v := .bool false) rfl rfl ?_
                refine WL.assign (v := .bool false) rfl ?_
                refine WL.nil ?_
                exact Jk57 false _ _ rfl ((hs.mask []).pick []) hf
            · refine WL.pass ((wanted_of rfl rfl (bool_tr rfl hc66)).trans rfl) rfl ?_
              refine WL.pass ((wanted_of rfl rfl (bool_tr rfl hc66)).trans rfl) rfl ?_
              refine WL.pass ((wanted_of rfl rfl (bool_tr rfl hc66)).trans rfl) rfl ?_
              refine WL.pickF (v := .bool false) (bool_tr rfl hc66) rfl ?_
              refine WL.move (v := .bool false) rfl ?_
              refine WL.pass ((wanted_of rfl rfl rfl).trans rfl) rfl ?_
              refine WL.pass ((wanted_of rfl rfl rfl).trans rfl) rfl ?_
              refine WL.pass ((wanted_of rfl rfl rfl).trans rfl) rfl ?_
              refine WL.pass ((wanted_of rfl rfl rfl).trans rfl) rfl ?_
              refine WL.pickF (v := .bool false) rfl rfl ?_
              refine WL.move (v := .bool false) rfl ?_
              refine WL.pass ((wanted_of rfl rfl rfl).trans rfl) rfl ?_
              refine WL.pass ((wanted_of rfl rfl rfl).trans rfl) rfl ?_
              refine WL.pass ((wanted_of rfl rfl rfl).trans rfl) rfl ?_
              refine WL.pass ((wanted_of rfl rfl rfl).trans rfl) rfl ?_
              refine WL.pass ((wanted_of rfl rfl rfl).trans rfl) rfl ?_
              refine WL.pickF (v := .bool false) rfl rfl ?_
              refine WL.move (v := .bool false) rfl ?_
              refine WL.pass ((wanted_of rfl rfl rfl).trans rfl) rfl ?_
              refine WL.pass ((wanted_of rfl rfl rfl).trans rfl) rfl ?_
              refine WL.pass ((wanted_of rfl rfl rfl).trans rfl) rfl ?_
              refine WL.pass ((wanted_of rfl rfl rfl).trans rfl) rfl ?_
              refine WL.pickF (v := .bool false) rfl rfl ?_
              refine WL.assign (v := .bool false) rfl ?_
              refine WL.nil ?_
              exact Jk57 false _ _ rfl ((hs.mask []).pick []) hf
          · refine WL.pass ((wanted_of rfl rfl (bool_tr rfl hc65)).trans rfl) rfl ?_
            refine WL.pickF (v := .bool false) (bool_tr rfl hc65) rfl ?_
            refine WL.move (v := .bool false) rfl ?_
            refine WL.pass ((wanted_of rfl rfl rfl).trans rfl) rfl ?_
            refine WL.pass ((wanted_of rfl rfl rfl).trans rfl) rfl ?_
            refine WL.pass ((wanted_of rfl rfl rfl).trans rfl) rfl ?_
            refine WL.pickF (v := .bool false) rfl rfl ?_
            refine WL.move (v := .bool false) rfl ?_
            refine WL.pass ((wanted_of rfl rfl rfl).trans rfl) rfl ?_
            refine WL.pass ((wanted_of rfl rfl rfl).trans rfl) rfl ?_
            refine WL.pass ((wanted_of rfl rfl rfl).trans rfl) rfl ?_
            refine WL.pass ((wanted_of rfl rfl rfl).trans rfl) rfl ?_
            refine WL.pickF (v := .bool false) rfl rfl ?_
            refine WL.move (v := .bool false) rfl ?_
            refine WL.pass ((wanted_of rfl rfl rfl).trans rfl) rfl ?_
            refine WL.pass ((wanted_of rfl rfl rfl).trans rfl) rfl ?_
            refine WL.pass ((wanted_of rfl rfl rfl).trans rfl) rfl ?_
            refine WL.pass ((wanted_of rfl rfl rfl).trans rfl) rfl ?_
            refine WL.pass ((wanted_of rfl rfl rfl).trans rfl) rfl ?_
            refine WL.pickF (v := .bool false) rfl rfl ?_
            refine WL.move (v := .bool false) rfl ?_
            refine WL.pass ((wanted_of rfl rfl rfl).trans rfl) rfl ?_
            refine WL.pass ((wanted_of rfl rfl rfl).trans rfl) rfl ?_
            refine WL.pass ((wanted_of rfl rfl rfl).trans rfl) rfl ?_
            refine WL.pass ((wanted_of rfl rfl rfl).trans rfl) rfl ?_
            refine WL.pickF (v := .bool false) rfl rfl ?_
            refine WL.assign (v := .bool false) rfl ?_
            refine WL.nil ?_
            exact Jk57 false _ _ rfl ((hs.mask []).pick []) hf
        · refine WL.pass ((wanted_of rfl rfl (bool_tr rfl hc64)).trans rfl) rfl ?_
          refine WL.pass ((wanted_of rfl rfl (bool_tr rfl hc64)).trans rfl) rfl ?_
          refine WL.pickF (v := .bool false) (bool_tr rfl hc64) rfl ?_
          refine WL.move (v := .bool false) rfl ?_
          refine WL.pass ((wanted_of rfl rfl rfl).trans rfl) rfl ?_
          refine WL.pickF (v := .bool false) rfl rfl ?_
          refine WL.move (v := .bool false) rfl ?_
          refine WL.pass ((wanted_of rfl rfl rfl).trans rfl) rfl ?_
          refine WL.pass ((wanted_of rfl rfl rfl).trans rfl) rfl ?_
          refine WL.pass ((wanted_of rfl rfl rfl).trans rfl) rfl ?_
          refine WL.pickF (v := .bool false) rfl rfl ?_
          refine WL.move (v := .bool false) rfl ?_
          refine WL.pass ((wanted_of rfl rfl rfl).trans rfl) rfl ?_
          refine WL.pass ((wanted_of rfl rfl rfl).trans rfl) rfl ?_
          refine WL.pass ((wanted_of rfl rfl rfl).trans rfl) rfl ?_
          refine WL.pass ((wanted_of rfl rfl rfl).trans rfl) rfl ?_
          refine WL.pickF (v := .bool false) rfl rfl ?_
          refine WL.move (v := .bool false) rfl ?_
          refine WL.pass ((wanted_of rfl rfl rfl).trans rfl) rfl ?_
          refine WL.pass ((wanted_of rfl rfl rfl).trans rfl) rfl ?_
          refine WL.pass ((wanted_of rfl rfl rfl).trans rfl) rfl ?_
          refine WL.pass ((wanted_of rfl rfl rfl).trans rfl) rfl ?_
          refine WL.pass ((wanted_of rfl rfl rfl).trans rfl) rfl ?_
          refine WL.pickF (v := .bool false) rfl rfl ?_
          refine WL.move (v := .bool false) rfl ?_
          refine WL.pass ((wanted_of rfl rfl rfl).trans rfl) rfl ?_
          refine WL.pass ((wanted_of rfl rfl rfl).trans rfl) rfl ?_
          refine WL.pass ((wanted_of rfl rfl rfl).trans rfl) rfl ?_
          refine WL.pass ((wanted_of rfl rfl rfl).trans rfl) rfl ?_
          refine WL.pickF (v := .bool false) rfl rfl ?_
          refine WL.assign (v := .bool false) rfl ?_
          refine WL.nil ?_
          exact Jk57 false _ _ rfl ((hs.mask []).pick []) hf
      · refine WL.pass ((wanted_of rfl rfl (bool_tr rfl hc60)).trans rfl) rfl ?_
        refine WL.pass ((wanted_of rfl rfl (bool_tr rfl hc60)).trans rfl) rfl ?_
        refine WL.pass ((wanted_of rfl rfl (bool_tr rfl hc60)).trans rfl) rfl ?_
        refine WL.pass ((wanted_of rfl rfl (bool_tr rfl hc60)).trans rfl) rfl ?_
        refine WL.pickF (v := .bool false) (bool_tr rfl hc60) rfl ?_
        refine WL.move (v := .bool false) rfl ?_
        refine WL.pass ((wanted_of rfl rfl rfl).trans rfl) rfl ?_
        refine WL.pass ((wanted_of rfl rfl rfl).trans rfl) rfl ?_
        refine WL.pickF (v := .bool false) rfl rfl ?_
        refine WL.move (v := .bool false) rfl ?_
        refine WL.pass ((wanted_of rfl rfl rfl).trans rfl) rfl ?_
        refine WL.pickF (v := .bool false) rfl rfl ?_
        refine WL.move (v := .bool false) rfl ?_
        refine WL.pass ((wanted_of rfl rfl rfl).trans rfl) rfl ?_
        refine WL.pass ((wanted_of rfl rfl rfl).trans rfl) rfl ?_
        refine WL.pass ((wanted_of rfl rfl rfl).trans rfl) rfl ?_
        refine WL.pickF (v := .bool false) rfl rfl ?_
        refine WL.move (v := .bool false) rfl ?_
        refine WL.pass ((wanted_of rfl rfl rfl).trans rfl) rfl ?_
        refine WL.pass ((wanted_of rfl rfl rfl).trans rfl) rfl ?_
        refine WL.pass ((wanted_of rfl rfl rfl).trans rfl) rfl ?_
        refine WL.pass ((wanted_of rfl rfl rfl).trans rfl) rfl ?_
        refine WL.pickF (v := .bool false) rfl rfl ?_
        refine WL.move (v := .bool false) rfl ?_
        refine WL.pass ((wanted_of rfl rfl rfl).trans rfl) rfl ?_
        refine WL.pass ((wanted_of rfl rfl rfl).trans rfl) rfl ?_
        refine WL.pass ((wanted_of rfl rfl rfl).trans rfl) rfl ?_
        refine WL.pass ((wanted_of rfl rfl rfl).trans rfl) rfl ?_
        refine WL.pass ((wanted_of rfl rfl rfl).trans rfl) rfl ?_
        refine WL.pickF (v := .bool false) rfl rfl ?_
        refine WL.move (v := .bool false) rfl ?_
        refine WL.pass ((wanted_of rfl rfl rfl).trans rfl) rfl ?_
        refine WL.pass ((wanted_of rfl rfl rfl).trans rfl) rfl ?_
        refine WL.pass ((wanted_of rfl rfl rfl).trans rfl) rfl ?_
        refine WL.pass ((wanted_of rfl rfl rfl).trans rfl) rfl ?_
        refine WL.pickF (v := .bool false) rfl rfl ?_
        refine WL.assign (v := .bool false) rfl ?_
        refine WL.nil ?_
        exact Jk57 false _ _ rfl ((hs.mask []).pick []) hf
    · refine WL.pass ((wanted_of rfl rfl (bool_tr rfl hc59)).trans rfl) rfl ?_
      refine WL.pass ((wanted_of rfl rfl (bool_tr rfl hc59)).trans rfl) rfl ?_
      refine WL.pass ((wanted_of rfl rfl (bool_tr rfl hc59)).trans rfl) rfl ?_
      refine WL.pickF (v := .bool false) (bool_tr rfl hc59) rfl ?_
      refine WL.move (v := .bool false) rfl ?_
      refine WL.pass ((wanted_of rfl rfl rfl).trans rfl) rfl ?_
      refine WL.pass ((wanted_of rfl rfl rfl).trans rfl) rfl ?_
      refine WL.pass ((wanted_of rfl rfl rfl).trans rfl) rfl ?_
      refine WL.pass ((wanted_of rfl rfl rfl).trans rfl) rfl ?_
      refine WL.pickF (v := .bool false) rfl rfl ?_
      refine WL.move (v := .bool false) rfl ?_
      refine WL.pass ((wanted_of rfl rfl rfl).trans rfl) rfl ?_
      refine WL.pass ((wanted_of rfl rfl rfl).trans rfl) rfl ?_
      refine WL.pickF (v := .bool false) rfl rfl ?_
      refine WL.move (v := .bool false) rfl ?_
      refine WL.pass ((wanted_of rfl rfl rfl).trans rfl) rfl ?_
      refine WL.pickF (v := .bool false) rfl rfl ?_
      refine WL.move (v := .bool false) rfl ?_
      refine WL.pass ((wanted_of rfl rfl rfl).trans rfl) rfl ?_
      refine WL.pass ((wanted_of rfl rfl rfl).trans rfl) rfl ?_
      refine WL.pass ((wanted_of rfl rfl rfl).trans rfl) rfl ?_
      refine WL.pickF (v := .bool false) rfl rfl ?_
      refine WL.move (v := .bool false) rfl ?_
      refine WL.pass ((wanted_of rfl rfl rfl).trans rfl) rfl ?_
      refine WL.pass ((wanted_of rfl rfl rfl).trans rfl) rfl ?_
      refine WL.pass ((wanted_of rfl rfl rfl).trans rfl) rfl ?_
      refine WL.pass ((wanted_of rfl rfl rfl).trans rfl) rfl ?_
      refine WL.pickF (v := .bool false) rfl rfl ?_
      refine WL.move (v := .bool false) rfl ?_
      refine WL.pass ((wanted_of rfl rfl rfl).trans rfl) rfl ?_
      refine WL.pass ((wanted_of rfl rfl rfl).trans rfl) rfl ?_
      refine WL.pass ((wanted_of rfl rfl rfl).trans rfl) rfl ?_
      refine WL.pass ((wanted_of rfl rfl rfl).trans rfl) rfl ?_
      refine WL.pass ((wanted_of rfl rfl rfl).trans rfl) rfl ?_
      refine WL.pickF (v := .bool false) rfl rfl ?_
      refine WL.move (v := .bool false) rfl ?_
      refine WL.pass ((wanted_of rfl rfl rfl).trans rfl) rfl ?_
      refine WL.pass ((wanted_of rfl rfl rfl).trans rfl) rfl ?_
      refine WL.pass ((wanted_of rfl rfl rfl).trans rfl) rfl ?_
      refine WL.pass ((wanted_of rfl rfl rfl).trans rfl) rfl ?_
      refine WL.pickF (v := .bool false) rfl rfl ?_
      refine WL.assign (v := .bool false) rfl ?_
      refine WL.nil ?_
      exact Jk57 false _ _ rfl ((hs.mask []).pick []) hf
  · refine WL.pass ((wanted_of rfl rfl (bool_tr rfl hc58)).trans rfl) rfl ?_
    refine WL.pass ((wanted_of rfl rfl (bool_tr rfl hc58)).trans rfl) rfl ?_
    refine WL.pass ((wanted_of rfl rfl (bool_tr rfl hc58)).trans rfl) rfl ?_
    refine WL.pickF (v := .bool false) (bool_tr rfl hc58) rfl ?_
    refine WL.move (v := .bool false) rfl ?_
    refine WL.pass ((wanted_of rfl rfl rfl).trans rfl) rfl ?_
    refine WL.pass ((wanted_of rfl rfl rfl).trans rfl) rfl ?_
    refine WL.pass ((wanted_of rfl rfl rfl).trans rfl) rfl ?_
    refine WL.pickF (v := .bool false) rfl rfl ?_
    refine WL.move (v := .bool false) rfl ?_
    refine WL.pass ((wanted_of rfl rfl rfl).trans rfl) rfl ?_
    refine WL.pass ((wanted_of rfl rfl rfl).trans rfl) rfl ?_
    refine WL.pass ((wanted_of rfl rfl rfl).trans rfl) rfl ?_
    refine WL.pass ((wanted_of rfl rfl rfl).trans rfl) rfl ?_
    refine WL.pickF (v := .bool false) rfl rfl ?_
    refine WL.move (v := .bool false) rfl ?_
    refine WL.pass ((wanted_of rfl rfl rfl).trans rfl) rfl ?_
    refine WL.pass ((wanted_of rfl rfl rfl).trans rfl) rfl ?_
    refine WL.pickF (v := .bool false) rfl rfl ?_
    refine WL.move (v := .bool false) rfl ?_
    refine WL.pass ((wanted_of rfl rfl rfl).trans rfl) rfl ?_
    refine WL.pickF (v := .bool false) rfl rfl ?_
    refine WL.move (v := .bool false) rfl ?_
    refine WL.pass ((wanted_of rfl rfl rfl).trans rfl) rfl ?_
    refine WL.pass ((wanted_of rfl rfl rfl).trans rfl) rfl ?_
    refine WL.pass ((wanted_of rfl rfl rfl).trans rfl) rfl ?_
    refine WL.pickF (v := .bool false) rfl rfl ?_
    refine WL.move (v := .bool false) rfl ?_
    refine WL.pass ((wanted_of rfl rfl rfl).trans rfl) rfl ?_
    refine WL.pass ((wanted_of rfl rfl rfl).trans rfl) rfl ?_
    refine WL.pass ((wanted_of rfl rfl rfl).trans rfl) rfl ?_
    refine WL.pass ((wanted_of rfl rfl rfl).trans rfl) rfl ?_
    refine WL.pickF (v := .bool false) rfl rfl ?_
    refine WL.move (v := .bool false) rfl ?_
    refine WL.pass ((wanted_of rfl rfl rfl).trans rfl) rfl ?_
    refine WL.pass ((wanted_of rfl rfl rfl).trans rfl) rfl ?_
    refine WL.pass ((wanted_of rfl rfl rfl).trans rfl) rfl ?_
    refine WL.pass ((wanted_of rfl rfl rfl).trans rfl) rfl ?_
    refine WL.pass ((wanted_of rfl rfl rfl).trans rfl) rfl ?_
    refine WL.pickF (v := .bool false) rfl rfl ?_
    refine WL.move (v := .bool false) rfl ?_
    refine WL.pass ((wanted_of rfl rfl rfl).trans rfl) rfl ?_
    refine WL.pass ((wanted_of rfl rfl rfl).trans rfl) rfl ?_
    refine WL.pass ((wanted_of rfl rfl rfl).trans rfl) rfl ?_
    refine WL.pass ((wanted_of rfl rfl rfl).trans rfl) rfl ?_
    refine WL.pickF (v := .bool false) rfl rfl ?_
    refine WL.assign (v := .bool false) rfl ?_
    refine WL.nil ?_
    exact Jk57 false _ _ rfl ((hs.mask []).pick []) hf
/-! elasticstore/elasticstorelaw00.Index: function 17 -/
theorem eslaw00_Index.calls {ok : Nat → Prop} {w0 : World} {x1 : Int} {x2 : Int}  {r : Int} (hf : eslaw00_Index x1 x2 = some r)  :
    Calls Try.prog 17 #[.int .i64 x1, .int .i64 x2] w0 fun e w' => ∃ v, e = .returned v ∧ ∃ y : Unit, v = .int .i64 r ∧ St ok (bz w0) w' [] [] := by
  unfold eslaw00_Index at hf
  refine calls_of_W (fn := Try.f17) (N := 14) Try.func17 rfl Try.ntmps17 rfl ?_
  have hs : St ok (bz w0) w0 [] [] := St.init All.nil
  refine W.seqK fun K3 hK3 => ?_
  refine W.region ?_
  refine WL.assign (v := .int .i64 0) rfl ?_
  refine WL.nil ?_
  refine hK3 _ _ ?_
  refine W.seqK fun K4 hK4 => ?_
  refine W.seqK fun K5 hK5 => ?_
  refine W.region ?_
  refine WL.move (v := .int .i64 x2) rfl ?_
  refine WL.bin (v := .bool (decide (x2 < 1))) rfl rfl (ib_lss _ _ _) ?_
  refine WL.nil ?_
  refine hK5 _ _ ?_
  rcases iteE hf with ⟨hc6, hf⟩ | ⟨hc6, hf⟩
  · refine W.cond_true (bool_tr rfl hc6) ?_
    refine W.seqK fun K7 hK7 => ?_
    refine W.region ?_
    refine WL.assign (v := .int .i64 0) rfl ?_
    refine WL.nil ?_
    refine hK7 _ _ ?_
    refine W.ret ?_
    have hr := Option.some.inj hf; subst hr
    exact ⟨_, resOk_one rfl rfl, (), rfl, (hs.mask []).pick []⟩
  · refine W.cond_false (bool_tr rfl hc6) ?_
    refine W.skip ?_
    refine hK4 _ _ ?_
    refine W.seqK fun K8 hK8 => ?_
    refine W.region ?_
    refine WL.move (v := .int .i64 x1) rfl ?_
    refine WL.move (v := .int .i64 x2) rfl ?_
    obtain ⟨hn9, hf⟩ := guardE hf
    refine WL.bin (v := .int .i64 (Int.tmod x1 x2)) rfl rfl (ib_rem _ _ _ hn9) ?_
    refine WL.move (v := .int .i64 x2) rfl ?_
    obtain ⟨x10, ex10, hf⟩ := letE hf
    refine WL.bin (v := .int .i64 x10) rfl rfl (ib_as ex10 (ib_add _ _ _)) ?_
    refine WL.move (v := .int .i64 x2) rfl ?_
    obtain ⟨hn11, hf⟩ := guardE hf
    refine WL.bin (v := .int .i64 (Int.tmod x10 x2)) rfl rfl (ib_rem _ _ _ hn11) ?_
    refine WL.assign (v := .int .i64 (Int.tmod x10 x2)) rfl ?_
    refine WL.nil ?_
    refine hK8 _ _ ?_
    refine W.ret ?_
    have hr := Option.some.inj hf; subst hr
    exact ⟨_, resOk_one rfl rfl, (), rfl, (hs.mask []).pick []⟩
end Go.Proofs.Ytahobbichanccaa
