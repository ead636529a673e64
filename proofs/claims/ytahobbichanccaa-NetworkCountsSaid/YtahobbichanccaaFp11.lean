import Derived.Test.YtahobbichanccaaFh
import Derived.Test.YtahobbichanccaaFp0
import Derived.Test.YtahobbichanccaaFp2
import Derived.Test.YtahobbichanccaaFp3
import Derived.Test.YtahobbichanccaaFp4
import Derived.Test.YtahobbichanccaaFp5
import Derived.Test.YtahobbichanccaaFp7
import Derived.Test.YtahobbichanccaaFp8
import Derived.Test.YtahobbichanccaaFp9
import Derived.Test.YtahobbichanccaaFp10
set_option linter.unusedVariables false
set_option linter.unusedSimpArgs false
namespace Go.Proofs.Ytahobbichanccaa
open Go Go.RowKit Go.Proofs.YtahobbichanccaaL
set_option maxRecDepth 100000
set_option maxHeartbeats 400000
/-! elasticstore/elasticstorelaw34.step: function 19 -/
theorem eslaw34_step.calls {ok : Nat → Prop} {w0 : World} {x1 : network_Network} {x5 : network_Network} {x9 : elasticstorelaw34_Act} {v2 : Value} {v6 : Value} {v10 : Value} {r : network_Network × network_Network × Bool} (hf : eslaw34_step x1 x5 x9 = some r) (i0 : (vl t_network_Network x1 v2).holds ok w0) (i1 : (vl t_network_Network x5 v6).holds ok w0) (i2 : (vl t_elasticstorelaw34_Act x9 v10).holds ok w0) :
    Calls Try.prog 19 #[v2, v6, v10] w0 fun e w' => ∃ v, e = .returned v ∧ ∃ y : (List Value) × (List Value), v = .tuple #[.agg y.1.toArray, .agg y.2.toArray, .bool r.2.2] ∧ St ok (bz w0) w' [vl t_network_Network r.1 (.agg y.1.toArray), vl t_network_Network r.2.1 (.agg y.2.toArray)] [] := by
  unfold eslaw34_step at hf
  refine calls_of_W (fn := Try.f19) (N := 175) Try.func19 rfl Try.ntmps19 rfl ?_
  have hs : St ok (bz w0) w0 [vl t_network_Network x1 v2, vl t_network_Network x5 v6, vl t_elasticstorelaw34_Act x9 v10] [] := St.init (All.cons i0 (All.cons i1 (All.cons i2 All.nil)))
  clear i0 i1 i2
  obtain ⟨cs3, hl4, rfl⟩ := hs.aggv (n := 3) 0 rfl rfl rfl
  obtain ⟨cs7, hl8, rfl⟩ := hs.aggv (n := 3) 1 rfl rfl rfl
  obtain ⟨cs11, hl12, rfl⟩ := hs.aggv (n := 4) 2 rfl rfl rfl
  refine W.seqK fun K13 hK13 => ?_
  refine W.region ?_
  refine WL.box (vs := cs3) hs rfl rfl (fun g14 w hs => ?_)
  refine WL.box (vs := cs7) hs rfl rfl (fun g15 w hs => ?_)
  refine WL.box (vs := cs11) hs rfl rfl (fun g16 w hs => ?_)
  refine WL.alloc hs ZV27 (fun g17 w hs => ?_)
  refine WL.alloc hs ZV27 (fun g18 w hs => ?_)
  refine WL.assign (v := .bool false) rfl ?_
  refine WL.nil ?_
  refine hK13 _ _ ?_
  refine W.seqK fun K19 hK19 => ?_
  refine W.region ?_
  refine WL.fieldAddr (m := 1) rfl FA33_1 rfl ?_
  refine WL.loadF (z := x9.N) F_elasticstorelaw34_Act_N hs 2 rfl 2 rfl rfl TI3 (.inr rfl) rfl rfl (fun v20 hs => ?_)
  obtain rfl := hs.int 0 rfl
  refine WL.fieldAddr (m := 0) rfl FA27_0 rfl ?_
  refine WL.loadF (z := x1.Next) F_network_Network_Next hs 4 rfl 1 rfl rfl TI3 (.inr rfl) rfl rfl (fun v21 hs => ?_)
  obtain rfl := hs.int 0 rfl
  obtain ⟨x22, ex22, hf⟩ := letE hf
  refine WL.bin (v := .int .i64 x22) rfl rfl (ib_as ex22 (ib_add _ _ _)) ?_
  refine WL.max rfl rfl ?_
  obtain ⟨x23, hxx23, hf⟩ := bindE hf
  refine WL.call (vs := [.int .i64 x9.N, .int .i64 (maxI 2 x22)]) hs FN17 ⟨rfl, ⟨rfl, trivial⟩⟩ (fun ok hA => eslaw00_Index.calls (x1 := x9.N) (x2 := (maxI 2 x22)) hxx23) ?_
  rintro _ w hs
  obtain ⟨x24, ex24, hf⟩ := letE hf
  refine WL.bin (v := .int .i64 x24) rfl rfl (ib_as ex24 (ib_sub _ _ _)) ?_
  refine WL.assign (v := .int .i64 x24) rfl ?_
  refine WL.nil ?_
  refine hK19 _ _ ?_
  refine W.seqK fun K25 hK25 => ?_
  refine W.seqK fun K26 hK26 => ?_
  refine W.region ?_
  refine WL.fieldAddr (m := 0) rfl FA33_0 rfl ?_
  refine WL.loadF (z := x9.Kind) F_elasticstorelaw34_Act_Kind hs 2 rfl 4 rfl rfl TI3 (.inr rfl) rfl rfl (fun v27 hs => ?_)
  obtain rfl := hs.int 0 rfl
  obtain ⟨x28, hxx28, hf⟩ := bindE hf
  refine WL.call (vs := [.int .i64 x9.Kind, .int .i64 9]) hs FN17 ⟨rfl, ⟨rfl, trivial⟩⟩ (fun ok hA => eslaw00_Index.calls (x1 := x9.Kind) (x2 := 9) hxx28) ?_
  rintro _ w hs
  refine WL.nil ?_
  refine hK26 _ _ ?_
  refine W.block ?_
  refine W.seqK fun K29 hK29 => ?_
  refine W.region ?_
  refine WL.bin (v := .bool (x28 == 0)) rfl rfl (ib_eql _ _ _) ?_
  refine WL.assign (v := .bool (x28 == 0)) rfl ?_
  refine WL.nil ?_
  refine hK29 _ _ ?_
  rcases iteE hf with ⟨hc30, hf⟩ | ⟨hc30, hf⟩
  · refine W.cond_true (bool_tr rfl hc30) ?_
    refine W.seqK fun K31 hK31 => ?_
    refine W.region ?_
    refine WL.loadAll hs 4 rfl TI27 rfl hl4 ?_
    refine WL.move (v := .int .i64 x24) rfl ?_
    obtain ⟨⟨x32, x33, x34⟩, hxx32, hf⟩ := bindE hf
    refine WL.call (vs := [.agg cs3.toArray, .int .i64 x24]) hs FN26 ⟨rfl, ⟨rfl, trivial⟩⟩ (fun ok hA => network_Deliver.calls (x1 := x1) (x5 := x24) hxx32 (hA.get 3 rfl)) ?_
    rintro ⟨cs35, cs36⟩ w hs
    have hl37 := hs.agglen (n := 3) 0 rfl rfl rfl
    have hl38 := hs.agglen (n := 18) 1 rfl rfl rfl
    refine WL.move (v := .tuple #[.agg cs35.toArray, .agg cs36.toArray, .bool x34]) rfl ?_
    refine WL.extract (v := .agg cs35.toArray) rfl rfl ?_
    refine WL.extract (v := .agg cs36.toArray) rfl rfl ?_
    refine WL.extract (v := .bool x34) rfl rfl ?_
    refine WL.alloc hs ZV27 (fun g39 w hs => ?_)
    refine WL.alloc hs ZV49 (fun g40 w hs => ?_)
    refine WL.storeAll (vs := cs35) hs 1 rfl TI27 rfl rfl rfl hl37 (hs.ones 0 rfl rfl) rfl (fun w hs => ?_)
    refine WL.storeAll (vs := cs36) hs 0 rfl TI49 rfl rfl rfl hl38 (hs.ones 1 rfl rfl) rfl (fun w hs => ?_)
    refine WL.assign (v := .bool x34) rfl ?_
    refine WL.nil ?_
    refine hK31 _ _ ?_
    refine W.seqK fun K41 hK41 => ?_
    refine W.region ?_
    refine WL.loadAll hs 5 rfl TI27 rfl hl8 ?_
    refine WL.move (v := .int .i64 x24) rfl ?_
    obtain ⟨⟨x42, x43, x44⟩, hxx42, hf⟩ := bindE hf
    refine WL.call (vs := [.agg cs7.toArray, .int .i64 x24]) hs FN32 ⟨rfl, ⟨rfl, trivial⟩⟩ (fun ok hA => esref36_Deliver.calls (x1 := x5) (x5 := x24) hxx42 (hA.get 6 rfl)) ?_
    rintro ⟨cs45, cs46⟩ w hs
    have hl47 := hs.agglen (n := 3) 0 rfl rfl rfl
    have hl48 := hs.agglen (n := 18) 1 rfl rfl rfl
    refine WL.move (v := .tuple #[.agg cs45.toArray, .agg cs46.toArray, .bool x44]) rfl ?_
    refine WL.extract (v := .agg cs45.toArray) rfl rfl ?_
    refine WL.extract (v := .agg cs46.toArray) rfl rfl ?_
    refine WL.extract (v := .bool x44) rfl rfl ?_
    refine WL.alloc hs ZV27 (fun g49 w hs => ?_)
    refine WL.alloc hs ZV49 (fun g50 w hs => ?_)
    refine WL.storeAll (vs := cs45) hs 1 rfl TI27 rfl rfl rfl hl47 (hs.ones 0 rfl rfl) rfl (fun w hs => ?_)
    refine WL.storeAll (vs := cs46) hs 0 rfl TI49 rfl rfl rfl hl48 (hs.ones 1 rfl rfl) rfl (fun w hs => ?_)
    refine WL.assign (v := .bool x44) rfl ?_
    refine WL.nil ?_
    refine hK41 _ _ ?_
    refine W.seqK fun K51 hK51 => ?_
    have Jk68 : ∀ (x53 : Bool) (x54 : Int) (x55 : List network_Packet) (x58 : List network_Side) (x61 : Int) (x62 : List network_Packet) (x65 : List network_Side) (a56 : Option Addr) (c57 : Nat) (a59 : Option Addr) (c60 : Nat) (a63 : Option Addr) (c64 : Nat) (a66 : Option Addr) (c67 : Nat) (ρ : Env) (w : World), ρ 6 = .pointer (some ⟨g17, 0, none⟩) → ρ 7 = .pointer (some ⟨g18, 0, none⟩) → ρ 8 = .bool x53 → St ok (bz w0) w [vl (tSlice t_network_Packet) x55 (.slice a56 x55.length c57), vl (tSlice t_network_Side) x58 (.slice a59 x58.length c60), vl (tSlice t_network_Packet) x62 (.slice a63 x62.length c64), vl (tSlice t_network_Side) x65 (.slice a66 x65.length c67)] [blk g18 27 [.int .i64 x54, .slice a56 x55.length c57, .slice a59 x58.length c60], blk g17 27 [.int .i64 x61, .slice a63 x62.length c64, .slice a66 x65.length c67]] → eslaw34_step.j1 x53 x54 x55 x58 x61 x62 x65 = some r → K51 ρ w := by
      intro x53 x54 x55 x58 x61 x62 x65 a56 c57 a59 c60 a63 c64 a66 c67 ρ w h52_6 h52_7 h52_8 hs hf
      refine hK51 _ _ ?_
      unfold eslaw34_step.j1 at hf
      refine W.ret ?_
      have hr := Option.some.inj hf; subst hr
      have hs := hs.add (it := vl t_network_Network (⟨x61, x62, x65⟩ : network_Network) (.agg [.int .i64 x61, .slice a63 x62.length c64, .slice a66 x65.length c67].toArray)) fun ok hA => V_agg (show t_network_Network.R ok _ _ _ from ⟨[.int .i64 x61], [.slice a63 x62.length c64, .slice a66 x65.length c67], rfl, rfl, ⟨[.slice a63 x62.length c64], [.slice a66 x65.length c67], rfl, (R_one (hA.get 2 rfl)), (R_one (hA.get 3 rfl))⟩⟩) rfl
      have hs := hs.add (it := vl t_network_Network (⟨x54, x55, x58⟩ : network_Network) (.agg [.int .i64 x54, .slice a56 x55.length c57, .slice a59 x58.length c60].toArray)) fun ok hA => V_agg (show t_network_Network.R ok _ _ _ from ⟨[.int .i64 x54], [.slice a56 x55.length c57, .slice a59 x58.length c60], rfl, rfl, ⟨[.slice a56 x55.length c57], [.slice a59 x58.length c60], rfl, (R_one (hA.get 1 rfl)), (R_one (hA.get 2 rfl))⟩⟩) rfl
      exact ⟨_, resOk_three rfl (res_all hs 1 rfl TI27 h52_6 rfl) (res_all hs 0 rfl TI27 h52_7 rfl) h52_8, ([.int .i64 x61, .slice a63 x62.length c64, .slice a66 x65.length c67], [.int .i64 x54, .slice a56 x55.length c57, .slice a59 x58.length c60]), rfl, (hs.mask []).pick [1, 0]⟩
    rcases iteE hf with ⟨hc69, hf⟩ | ⟨hc69, hf⟩
    · obtain ⟨x70, hxx70, hf⟩ := bindE hf
      have hs := hs.front 5 rfl
      have hs := hs.front 5 rfl
      refine W.any (by kernel_rfl) 12 1 [true, true, true, true, true, true, true, true, true, true, true, true, false] rfl rfl (poAt [pv (.agg cs35.toArray), pv (.agg cs45.toArray), pv (.bool x34), pv (.bool x44), pv (.bool (x34 == x44)), pv (.bool (x34 == x44)), pv (.agg cs36.toArray), pv (.agg cs46.toArray), pv (.bool x70), pv (.bool x70), pw (blk g17 27 [.int .i64 0, .slice none 0 0, .slice none 0 0]) (blk g17 27 cs35), pw (blk g18 27 [.int .i64 0, .slice none 0 0, .slice none 0 0]) (blk g18 27 cs45)]) (Λ := [blk g50 49 cs46, blk g49 27 cs45, blk g40 49 cs36, blk g39 27 cs35, blk g16 33 cs11, blk g15 27 cs7, blk g14 27 cs3]) hs (by kernel_rfl) (by kernel_rfl) (by kernel_rfl) ⟨⟨⟨⟨⟨⟨⟨⟨⟨⟨⟨⟨trivial, ?_⟩, ?_⟩, ?_⟩, ?_⟩, ?_⟩, ?_⟩, ?_⟩, ?_⟩, ?_⟩, ?_⟩, ?_⟩, ?_⟩ ?_
      · intro ρ w Γx Λx hs hu hp
        refine WL.loadAll hs (Λx.length + 3) (getApp rfl) TI27 (hu 10 rfl) hl37 ?_
        exact WL.nil ⟨rfl, _, rfl, rfl, hs.cutG 0 0⟩
      · intro ρ w Γx Λx hs hu hp
        refine WL.loadAll hs (Λx.length + 1) (getApp rfl) TI27 (hu 13 rfl) hl47 ?_
        exact WL.nil ⟨rfl, _, rfl, rfl, hs.cutG 0 0⟩
      · intro ρ w Γx Λx hs hu hp
        refine WL.move (v := .bool x34) (hu 12 rfl) ?_
        exact WL.nil ⟨rfl, _, rfl, rfl, hs.cutG 0 0⟩
      · intro ρ w Γx Λx hs hu hp
        refine WL.move (v := .bool x44) (hu 15 rfl) ?_
        exact WL.nil ⟨rfl, _, rfl, rfl, hs.cutG 0 0⟩
      · intro ρ w Γx Λx hs hu hp
        have e71 : ρ 57 = .bool x34 := (hp 2 rfl).1
        have e72 : ρ 58 = .bool x44 := (hp 3 rfl).1
        refine WL.eqB UN4 e71 e72 ?_
        exact WL.nil ⟨rfl, _, rfl, rfl, hs.cutG 0 0⟩
      · intro ρ w Γx Λx hs hu hp
        have e73 : ρ 59 = .bool (x34 == x44) := (hp 4 rfl).1
        refine WL.move (v := .bool (x34 == x44)) e73 ?_
        exact WL.nil ⟨rfl, _, rfl, rfl, hs.cutG 0 0⟩
      · intro ρ w Γx Λx hs hu hp
        have e74 : ρ 60 = .bool (x34 == x44) := (hp 5 rfl).1
        refine WL.loadAll hs (Λx.length + 2) (getApp rfl) TI49 (hu 11 rfl) hl38 ?_ (hg := (wanted_of rfl rfl (bool_tr e74 hc69)).trans rfl)
        exact WL.nil ⟨rfl, _, rfl, rfl, hs.cutG 0 0⟩
      · intro ρ w Γx Λx hs hu hp
        have e75 : ρ 60 = .bool (x34 == x44) := (hp 5 rfl).1
        refine WL.loadAll hs (Λx.length + 0) (getApp rfl) TI49 (hu 14 rfl) hl48 ?_ (hg := (wanted_of rfl rfl (bool_tr e75 hc69)).trans rfl)
        exact WL.nil ⟨rfl, _, rfl, rfl, hs.cutG 0 0⟩
      · intro ρ w Γx Λx hs hu hp
        have e76 : ρ 61 = .agg cs36.toArray := (hp 6 rfl).1
        have e77 : ρ 62 = .agg cs46.toArray := (hp 7 rfl).1
        have e78 : ρ 60 = .bool (x34 == x44) := (hp 5 rfl).1
        refine WL.call (vs := [.agg cs36.toArray, .agg cs46.toArray]) hs FN24 ⟨e76, ⟨e77, trivial⟩⟩ (fun ok hA => esref14_EqualMessage.calls (x1 := x33) (x5 := x43) hxx70 (hA.get (Γx.length + 3) (getApp rfl)) (hA.get (Γx.length + 1) (getApp rfl))) ?_ (hg := (wanted_of rfl rfl (bool_tr e78 hc69)).trans rfl)
        rintro _ w hs
        exact WL.nil ⟨rfl, _, rfl, rfl, hs.cutG 0 0⟩
      · intro ρ w Γx Λx hs hu hp
        have e79 : ρ 60 = .bool (x34 == x44) := (hp 5 rfl).1
        have e80 : ρ 63 = .bool x70 := (hp 8 rfl).1
        refine WL.pickT (v := .bool x70) (bool_tr e79 hc69) e80 ?_
        exact WL.nil ⟨rfl, _, rfl, rfl, hs.cutG 0 0⟩
      · intro ρ w Γx Λx hs hu hp
        have hs : St ok (bz w0) w (Γx ++ [vl t_network_Network x42 (.agg cs45.toArray), vl t_api_Message x43 (.agg cs46.toArray), vl t_network_Network x32 (.agg cs35.toArray), vl t_api_Message x33 (.agg cs36.toArray), vl (tInt .i64) x9.Kind (.int .i64 x9.Kind), vl (tInt .i64) x1.Next (.int .i64 x1.Next), vl (tInt .i64) x9.N (.int .i64 x9.N), vl t_network_Network x1 (.agg cs3.toArray), vl t_network_Network x5 (.agg cs7.toArray), vl t_elasticstorelaw34_Act x9 (.agg cs11.toArray)]) (Λx ++ ([blk g17 27 [.int .i64 0, .slice none 0 0, .slice none 0 0]] ++ [blk g50 49 cs46, blk g49 27 cs45, blk g40 49 cs36, blk g39 27 cs35, blk g16 33 cs11, blk g15 27 cs7, blk g14 27 cs3])) := hs
        have e81 : ρ 55 = .agg cs35.toArray := (hp 0 rfl).1
        refine WL.storeAll (vs := cs35) hs (Λx.length + 0) (getApp rfl) TI27 (hu 6 rfl) e81 rfl hl37 (hs.ones (Γx.length + 2) (getApp rfl) rfl) rfl (fun w hs => ?_)
        have hs := hs.backP
        exact WL.nil ⟨rfl, _, rfl, trivial, hs.cutG 0 0⟩
      · intro ρ w Γx Λx hs hu hp
        have hs : St ok (bz w0) w (Γx ++ [vl t_network_Network x42 (.agg cs45.toArray), vl t_api_Message x43 (.agg cs46.toArray), vl t_network_Network x32 (.agg cs35.toArray), vl t_api_Message x33 (.agg cs36.toArray), vl (tInt .i64) x9.Kind (.int .i64 x9.Kind), vl (tInt .i64) x1.Next (.int .i64 x1.Next), vl (tInt .i64) x9.N (.int .i64 x9.N), vl t_network_Network x1 (.agg cs3.toArray), vl t_network_Network x5 (.agg cs7.toArray), vl t_elasticstorelaw34_Act x9 (.agg cs11.toArray)]) (Λx ++ ([blk g18 27 [.int .i64 0, .slice none 0 0, .slice none 0 0]] ++ [blk g50 49 cs46, blk g49 27 cs45, blk g40 49 cs36, blk g39 27 cs35, blk g16 33 cs11, blk g15 27 cs7, blk g14 27 cs3])) := hs
        have e82 : ρ 56 = .agg cs45.toArray := (hp 1 rfl).1
        refine WL.storeAll (vs := cs45) hs (Λx.length + 0) (getApp rfl) TI27 (hu 7 rfl) e82 rfl hl47 (hs.ones (Γx.length + 0) (getApp rfl) rfl) rfl (fun w hs => ?_)
        have hs := hs.backP
        exact WL.nil ⟨rfl, _, rfl, trivial, hs.cutG 0 0⟩
      · intro ρ w hs hu83 hp
        obtain ⟨⟨⟨⟨⟨⟨⟨⟨⟨⟨⟨⟨_, hp0_⟩, hp1_⟩, hp2_⟩, hp3_⟩, hp4_⟩, hp5_⟩, hp6_⟩, hp7_⟩, hp8_⟩, hp9_⟩, hp10_⟩, hp11_⟩ := hp
        have hs : St ok (bz w0) w [vl t_network_Network x42 (.agg cs45.toArray), vl t_api_Message x43 (.agg cs46.toArray), vl t_network_Network x32 (.agg cs35.toArray), vl t_api_Message x33 (.agg cs36.toArray), vl (tInt .i64) x9.Kind (.int .i64 x9.Kind), vl (tInt .i64) x1.Next (.int .i64 x1.Next), vl (tInt .i64) x9.N (.int .i64 x9.N), vl t_network_Network x1 (.agg cs3.toArray), vl t_network_Network x5 (.agg cs7.toArray), vl t_elasticstorelaw34_Act x9 (.agg cs11.toArray)] [blk g18 27 cs45, blk g17 27 cs35, blk g50 49 cs46, blk g49 27 cs45, blk g40 49 cs36, blk g39 27 cs35, blk g16 33 cs11, blk g15 27 cs7, blk g14 27 cs3] := hs
        have e84 : ρ 64 = .bool x70 := hp9_
        have e85 : ρ 63 = .bool x70 := hp8_
        have e86 : ρ 62 = .agg cs46.toArray := hp7_
        have e87 : ρ 61 = .agg cs36.toArray := hp6_
        have e88 : ρ 60 = .bool (x34 == x44) := hp5_
        have e89 : ρ 59 = .bool (x34 == x44) := hp4_
        have e90 : ρ 58 = .bool x44 := hp3_
        have e91 : ρ 57 = .bool x34 := hp2_
        have e92 : ρ 56 = .agg cs45.toArray := hp1_
        have e93 : ρ 55 = .agg cs35.toArray := hp0_
        refine WA.step [12] (by kernel_rfl) (by simp) ⟨?_, trivial⟩
        refine WL.assign (v := .bool x70) e84 ?_
        refine WL.nil ⟨rfl, _, rfl, ?_⟩
        refine WA.done (by kernel_rfl) ?_
        obtain ⟨a102, c103, a104, c105, rfl⟩ := open_network_Network hs 0 rfl
        have hs := hs.add (it := vl (tSlice t_network_Packet) x42.Packets (.slice a102 (x42.Packets).length c103)) fun ok hA => V_fld F_network_Network_Packets (hA.get 0 rfl) rfl rfl rfl
        have hs := hs.add (it := vl (tSlice t_network_Side) x42.Sides (.slice a104 (x42.Sides).length c105)) fun ok hA => V_fld F_network_Network_Sides (hA.get 1 rfl) rfl rfl rfl
        obtain ⟨a106, c107, a108, c109, rfl⟩ := open_network_Network hs 4 rfl
        have hs := hs.add (it := vl (tSlice t_network_Packet) x32.Packets (.slice a106 (x32.Packets).length c107)) fun ok hA => V_fld F_network_Network_Packets (hA.get 4 rfl) rfl rfl rfl
        have hs := hs.add (it := vl (tSlice t_network_Side) x32.Sides (.slice a108 (x32.Sides).length c109)) fun ok hA => V_fld F_network_Network_Sides (hA.get 5 rfl) rfl rfl rfl
        exact Jk68 x70 x42.Next x42.Packets x42.Sides x32.Next x32.Packets x32.Sides a102 c103 a104 c105 a106 c107 a108 c109 _ _ (hu83 6 rfl) (hu83 7 rfl) rfl ((hs.mask [true, true]).pick [3, 2, 1, 0]) hf
    · have hs := hs.front 5 rfl
      have hs := hs.front 5 rfl
      refine W.any (by kernel_rfl) 12 1 [true, true, true, true, true, true, true, true, true, true, true, true, false] rfl rfl (poAt [pv (.agg cs35.toArray), pv (.agg cs45.toArray), pv (.bool x34), pv (.bool x44), pv (.bool (x34 == x44)), pv (.bool (x34 == x44)), pv (undef), pv (undef), pv (undef), pv (.bool false), pw (blk g17 27 [.int .i64 0, .slice none 0 0, .slice none 0 0]) (blk g17 27 cs35), pw (blk g18 27 [.int .i64 0, .slice none 0 0, .slice none 0 0]) (blk g18 27 cs45)]) (Λ := [blk g50 49 cs46, blk g49 27 cs45, blk g40 49 cs36, blk g39 27 cs35, blk g16 33 cs11, blk g15 27 cs7, blk g14 27 cs3]) hs (by kernel_rfl) (by kernel_rfl) (by kernel_rfl) ⟨⟨⟨⟨⟨⟨⟨⟨⟨⟨⟨⟨trivial, ?_⟩, ?_⟩, ?_⟩, ?_⟩, ?_⟩, ?_⟩, ?_⟩, ?_⟩, ?_⟩, ?_⟩, ?_⟩, ?_⟩ ?_
      · intro ρ w Γx Λx hs hu hp
        refine WL.loadAll hs (Λx.length + 3) (getApp rfl) TI27 (hu 10 rfl) hl37 ?_
        exact WL.nil ⟨rfl, _, rfl, rfl, hs.cutG 0 0⟩
      · intro ρ w Γx Λx hs hu hp
        refine WL.loadAll hs (Λx.length + 1) (getApp rfl) TI27 (hu 13 rfl) hl47 ?_
        exact WL.nil ⟨rfl, _, rfl, rfl, hs.cutG 0 0⟩
      · intro ρ w Γx Λx hs hu hp
        refine WL.move (v := .bool x34) (hu 12 rfl) ?_
        exact WL.nil ⟨rfl, _, rfl, rfl, hs.cutG 0 0⟩
      · intro ρ w Γx Λx hs hu hp
        refine WL.move (v := .bool x44) (hu 15 rfl) ?_
        exact WL.nil ⟨rfl, _, rfl, rfl, hs.cutG 0 0⟩
      · intro ρ w Γx Λx hs hu hp
        have e110 : ρ 57 = .bool x34 := (hp 2 rfl).1
        have e111 : ρ 58 = .bool x44 := (hp 3 rfl).1
        refine WL.eqB UN4 e110 e111 ?_
        exact WL.nil ⟨rfl, _, rfl, rfl, hs.cutG 0 0⟩
      · intro ρ w Γx Λx hs hu hp
        have e112 : ρ 59 = .bool (x34 == x44) := (hp 4 rfl).1
        refine WL.move (v := .bool (x34 == x44)) e112 ?_
        exact WL.nil ⟨rfl, _, rfl, rfl, hs.cutG 0 0⟩
      · intro ρ w Γx Λx hs hu hp
        have e113 : ρ 60 = .bool (x34 == x44) := (hp 5 rfl).1
        refine WL.pass ((wanted_of rfl rfl (bool_tr e113 hc69)).trans rfl) rfl ?_
        exact WL.nil ⟨rfl, _, rfl, rfl, hs.cutG 0 0⟩
      · intro ρ w Γx Λx hs hu hp
        have e114 : ρ 60 = .bool (x34 == x44) := (hp 5 rfl).1
        refine WL.pass ((wanted_of rfl rfl (bool_tr e114 hc69)).trans rfl) rfl ?_
        exact WL.nil ⟨rfl, _, rfl, rfl, hs.cutG 0 0⟩
      · intro ρ w Γx Λx hs hu hp
        have e115 : ρ 61 = undef := (hp 6 rfl).1
        have e116 : ρ 62 = undef := (hp 7 rfl).1
        have e117 : ρ 60 = .bool (x34 == x44) := (hp 5 rfl).1
        refine WL.pass ((wanted_of rfl rfl (bool_tr e117 hc69)).trans rfl) rfl ?_
        exact WL.nil ⟨rfl, _, rfl, rfl, hs.cutG 0 0⟩
      · intro ρ w Γx Λx hs hu hp
        have e118 : ρ 60 = .bool (x34 == x44) := (hp 5 rfl).1
        have e119 : ρ 63 = undef := (hp 8 rfl).1
        refine WL.pickF (v := .bool false) (bool_tr e118 hc69) rfl ?_
        exact WL.nil ⟨rfl, _, rfl, rfl, hs.cutG 0 0⟩
      · intro ρ w Γx Λx hs hu hp
        have hs : St ok (bz w0) w (Γx ++ [vl t_network_Network x42 (.agg cs45.toArray), vl t_api_Message x43 (.agg cs46.toArray), vl t_network_Network x32 (.agg cs35.toArray), vl t_api_Message x33 (.agg cs36.toArray), vl (tInt .i64) x9.Kind (.int .i64 x9.Kind), vl (tInt .i64) x1.Next (.int .i64 x1.Next), vl (tInt .i64) x9.N (.int .i64 x9.N), vl t_network_Network x1 (.agg cs3.toArray), vl t_network_Network x5 (.agg cs7.toArray), vl t_elasticstorelaw34_Act x9 (.agg cs11.toArray)]) (Λx ++ ([blk g17 27 [.int .i64 0, .slice none 0 0, .slice none 0 0]] ++ [blk g50 49 cs46, blk g49 27 cs45, blk g40 49 cs36, blk g39 27 cs35, blk g16 33 cs11, blk g15 27 cs7, blk g14 27 cs3])) := hs
        have e120 : ρ 55 = .agg cs35.toArray := (hp 0 rfl).1
        refine WL.storeAll (vs := cs35) hs (Λx.length + 0) (getApp rfl) TI27 (hu 6 rfl) e120 rfl hl37 (hs.ones (Γx.length + 2) (getApp rfl) rfl) rfl (fun w hs => ?_)
        have hs := hs.backP
        exact WL.nil ⟨rfl, _, rfl, trivial, hs.cutG 0 0⟩
      · intro ρ w Γx Λx hs hu hp
        have hs : St ok (bz w0) w (Γx ++ [vl t_network_Network x42 (.agg cs45.toArray), vl t_api_Message x43 (.agg cs46.toArray), vl t_network_Network x32 (.agg cs35.toArray), vl t_api_Message x33 (.agg cs36.toArray), vl (tInt .i64) x9.Kind (.int .i64 x9.Kind), vl (tInt .i64) x1.Next (.int .i64 x1.Next), vl (tInt .i64) x9.N (.int .i64 x9.N), vl t_network_Network x1 (.agg cs3.toArray), vl t_network_Network x5 (.agg cs7.toArray), vl t_elasticstorelaw34_Act x9 (.agg cs11.toArray)]) (Λx ++ ([blk g18 27 [.int .i64 0, .slice none 0 0, .slice none 0 0]] ++ [blk g50 49 cs46, blk g49 27 cs45, blk g40 49 cs36, blk g39 27 cs35, blk g16 33 cs11, blk g15 27 cs7, blk g14 27 cs3])) := hs
        have e121 : ρ 56 = .agg cs45.toArray := (hp 1 rfl).1
        refine WL.storeAll (vs := cs45) hs (Λx.length + 0) (getApp rfl) TI27 (hu 7 rfl) e121 rfl hl47 (hs.ones (Γx.length + 0) (getApp rfl) rfl) rfl (fun w hs => ?_)
        have hs := hs.backP
        exact WL.nil ⟨rfl, _, rfl, trivial, hs.cutG 0 0⟩
      · intro ρ w hs hu122 hp
        obtain ⟨⟨⟨⟨⟨⟨⟨⟨⟨⟨⟨⟨_, hp0_⟩, hp1_⟩, hp2_⟩, hp3_⟩, hp4_⟩, hp5_⟩, hp6_⟩, hp7_⟩, hp8_⟩, hp9_⟩, hp10_⟩, hp11_⟩ := hp
        have hs : St ok (bz w0) w [vl t_network_Network x42 (.agg cs45.toArray), vl t_api_Message x43 (.agg cs46.toArray), vl t_network_Network x32 (.agg cs35.toArray), vl t_api_Message x33 (.agg cs36.toArray), vl (tInt .i64) x9.Kind (.int .i64 x9.Kind), vl (tInt .i64) x1.Next (.int .i64 x1.Next), vl (tInt .i64) x9.N (.int .i64 x9.N), vl t_network_Network x1 (.agg cs3.toArray), vl t_network_Network x5 (.agg cs7.toArray), vl t_elasticstorelaw34_Act x9 (.agg cs11.toArray)] [blk g18 27 cs45, blk g17 27 cs35, blk g50 49 cs46, blk g49 27 cs45, blk g40 49 cs36, blk g39 27 cs35, blk g16 33 cs11, blk g15 27 cs7, blk g14 27 cs3] := hs
        have e123 : ρ 64 = .bool false := hp9_
        have e124 : ρ 63 = undef := hp8_
        have e125 : ρ 62 = undef := hp7_
        have e126 : ρ 61 = undef := hp6_
        have e127 : ρ 60 = .bool (x34 == x44) := hp5_
        have e128 : ρ 59 = .bool (x34 == x44) := hp4_
        have e129 : ρ 58 = .bool x44 := hp3_
        have e130 : ρ 57 = .bool x34 := hp2_
        have e131 : ρ 56 = .agg cs45.toArray := hp1_
        have e132 : ρ 55 = .agg cs35.toArray := hp0_
        refine WA.step [12] (by kernel_rfl) (by simp) ⟨?_, trivial⟩
        refine WL.assign (v := .bool false) e123 ?_
        refine WL.nil ⟨rfl, _, rfl, ?_⟩
        refine WA.done (by kernel_rfl) ?_
        obtain ⟨a141, c142, a143, c144, rfl⟩ := open_network_Network hs 0 rfl
        have hs := hs.add (it := vl (tSlice t_network_Packet) x42.Packets (.slice a141 (x42.Packets).length c142)) fun ok hA => V_fld F_network_Network_Packets (hA.get 0 rfl) rfl rfl rfl
        have hs := hs.add (it := vl (tSlice t_network_Side) x42.Sides (.slice a143 (x42.Sides).length c144)) fun ok hA => V_fld F_network_Network_Sides (hA.get 1 rfl) rfl rfl rfl
        obtain ⟨a145, c146, a147, c148, rfl⟩ := open_network_Network hs 4 rfl
        have hs := hs.add (it := vl (tSlice t_network_Packet) x32.Packets (.slice a145 (x32.Packets).length c146)) fun ok hA => V_fld F_network_Network_Packets (hA.get 4 rfl) rfl rfl rfl
        have hs := hs.add (it := vl (tSlice t_network_Side) x32.Sides (.slice a147 (x32.Sides).length c148)) fun ok hA => V_fld F_network_Network_Sides (hA.get 5 rfl) rfl rfl rfl
        exact Jk68 false x42.Next x42.Packets x42.Sides x32.Next x32.Packets x32.Sides a141 c142 a143 c144 a145 c146 a147 c148 _ _ (hu122 6 rfl) (hu122 7 rfl) rfl ((hs.mask [true, true]).pick [3, 2, 1, 0]) hf
  · refine W.cond_false (bool_tr rfl hc30) ?_
    refine W.seqK fun K149 hK149 => ?_
    refine W.region ?_
    refine WL.bin (v := .bool (x28 == 1)) rfl rfl (ib_eql _ _ _) ?_
    refine WL.assign (v := .bool (x28 == 1)) rfl ?_
    refine WL.nil ?_
    refine hK149 _ _ ?_
    rcases iteE hf with ⟨hc150, hf⟩ | ⟨hc150, hf⟩
    · refine W.cond_true (bool_tr rfl hc150) ?_
      refine W.seqK fun K151 hK151 => ?_
      refine W.region ?_
      refine WL.loadAll hs 4 rfl TI27 rfl hl4 ?_
      refine WL.move (v := .int .i64 x24) rfl ?_
      obtain ⟨⟨x152, x153⟩, hxx152, hf⟩ := bindE hf
      refine WL.call (vs := [.agg cs3.toArray, .int .i64 x24]) hs FN33 ⟨rfl, ⟨rfl, trivial⟩⟩ (fun ok hA => network_Drop.calls (x1 := x1) (x5 := x24) hxx152 (hA.get 3 rfl)) ?_
      rintro cs154 w hs
      have hl155 := hs.agglen (n := 3) 0 rfl rfl rfl
      refine WL.move (v := .tuple #[.agg cs154.toArray, .bool x153]) rfl ?_
      refine WL.extract (v := .agg cs154.toArray) rfl rfl ?_
      refine WL.extract (v := .bool x153) rfl rfl ?_
      refine WL.alloc hs ZV27 (fun g156 w hs => ?_)
      refine WL.storeAll (vs := cs154) hs 0 rfl TI27 rfl rfl rfl hl155 (hs.ones 0 rfl rfl) rfl (fun w hs => ?_)
      refine WL.assign (v := .bool x153) rfl ?_
      refine WL.nil ?_
      refine hK151 _ _ ?_
      refine W.seqK fun K157 hK157 => ?_
      refine W.region ?_
      refine WL.loadAll hs 4 rfl TI27 rfl hl8 ?_
      refine WL.move (v := .int .i64 x24) rfl ?_
      obtain ⟨⟨x158, x159⟩, hxx158, hf⟩ := bindE hf
      refine WL.call (vs := [.agg cs7.toArray, .int .i64 x24]) hs FN34 ⟨rfl, ⟨rfl, trivial⟩⟩ (fun ok hA => esref36_Drop.calls (x1 := x5) (x5 := x24) hxx158 (hA.get 5 rfl)) ?_
      rintro cs160 w hs
      have hl161 := hs.agglen (n := 3) 0 rfl rfl rfl
      refine WL.move (v := .tuple #[.agg cs160.toArray, .bool x159]) rfl ?_
      refine WL.extract (v := .agg cs160.toArray) rfl rfl ?_
      refine WL.extract (v := .bool x159) rfl rfl ?_
      refine WL.alloc hs ZV27 (fun g162 w hs => ?_)
      refine WL.storeAll (vs := cs160) hs 0 rfl TI27 rfl rfl rfl hl161 (hs.ones 0 rfl rfl) rfl (fun w hs => ?_)
      refine WL.assign (v := .bool x159) rfl ?_
      refine WL.nil ?_
      refine hK157 _ _ ?_
      refine W.seqK fun K163 hK163 => ?_
      have hs := hs.front 3 rfl
      have hs := hs.front 3 rfl
      refine W.any (by kernel_rfl) 7 1 [true, true, true, true, true, true, true, false] rfl rfl (poAt [pv (.agg cs154.toArray), pv (.agg cs160.toArray), pv (.bool x153), pv (.bool x159), pv (.bool (x153 == x159)), pw (blk g17 27 [.int .i64 0, .slice none 0 0, .slice none 0 0]) (blk g17 27 cs154), pw (blk g18 27 [.int .i64 0, .slice none 0 0, .slice none 0 0]) (blk g18 27 cs160)]) (Λ := [blk g162 27 cs160, blk g156 27 cs154, blk g16 33 cs11, blk g15 27 cs7, blk g14 27 cs3]) hs (by kernel_rfl) (by kernel_rfl) (by kernel_rfl) ⟨⟨⟨⟨⟨⟨⟨trivial, ?_⟩, ?_⟩, ?_⟩, ?_⟩, ?_⟩, ?_⟩, ?_⟩ ?_
      · intro ρ w Γx Λx hs hu hp
        refine WL.loadAll hs (Λx.length + 1) (getApp rfl) TI27 (hu 16 rfl) hl155 ?_
        exact WL.nil ⟨rfl, _, rfl, rfl, hs.cutG 0 0⟩
      · intro ρ w Γx Λx hs hu hp
        refine WL.loadAll hs (Λx.length + 0) (getApp rfl) TI27 (hu 18 rfl) hl161 ?_
        exact WL.nil ⟨rfl, _, rfl, rfl, hs.cutG 0 0⟩
      · intro ρ w Γx Λx hs hu hp
        refine WL.move (v := .bool x153) (hu 17 rfl) ?_
        exact WL.nil ⟨rfl, _, rfl, rfl, hs.cutG 0 0⟩
      · intro ρ w Γx Λx hs hu hp
        refine WL.move (v := .bool x159) (hu 19 rfl) ?_
        exact WL.nil ⟨rfl, _, rfl, rfl, hs.cutG 0 0⟩
      · intro ρ w Γx Λx hs hu hp
        have e164 : ρ 81 = .bool x153 := (hp 2 rfl).1
        have e165 : ρ 82 = .bool x159 := (hp 3 rfl).1
        refine WL.eqB UN4 e164 e165 ?_
        exact WL.nil ⟨rfl, _, rfl, rfl, hs.cutG 0 0⟩
      · intro ρ w Γx Λx hs hu hp
        have hs : St ok (bz w0) w (Γx ++ [vl t_network_Network x158 (.agg cs160.toArray), vl t_network_Network x152 (.agg cs154.toArray), vl (tInt .i64) x9.Kind (.int .i64 x9.Kind), vl (tInt .i64) x1.Next (.int .i64 x1.Next), vl (tInt .i64) x9.N (.int .i64 x9.N), vl t_network_Network x1 (.agg cs3.toArray), vl t_network_Network x5 (.agg cs7.toArray), vl t_elasticstorelaw34_Act x9 (.agg cs11.toArray)]) (Λx ++ ([blk g17 27 [.int .i64 0, .slice none 0 0, .slice none 0 0]] ++ [blk g162 27 cs160, blk g156 27 cs154, blk g16 33 cs11, blk g15 27 cs7, blk g14 27 cs3])) := hs
        have e166 : ρ 79 = .agg cs154.toArray := (hp 0 rfl).1
        refine WL.storeAll (vs := cs154) hs (Λx.length + 0) (getApp rfl) TI27 (hu 6 rfl) e166 rfl hl155 (hs.ones (Γx.length + 1) (getApp rfl) rfl) rfl (fun w hs => ?_)
        have hs := hs.backP
        exact WL.nil ⟨rfl, _, rfl, trivial, hs.cutG 0 0⟩
      · intro ρ w Γx Λx hs hu hp
        have hs : St ok (bz w0) w (Γx ++ [vl t_network_Network x158 (.agg cs160.toArray), vl t_network_Network x152 (.agg cs154.toArray), vl (tInt .i64) x9.Kind (.int .i64 x9.Kind), vl (tInt .i64) x1.Next (.int .i64 x1.Next), vl (tInt .i64) x9.N (.int .i64 x9.N), vl t_network_Network x1 (.agg cs3.toArray), vl t_network_Network x5 (.agg cs7.toArray), vl t_elasticstorelaw34_Act x9 (.agg cs11.toArray)]) (Λx ++ ([blk g18 27 [.int .i64 0, .slice none 0 0, .slice none 0 0]] ++ [blk g162 27 cs160, blk g156 27 cs154, blk g16 33 cs11, blk g15 27 cs7, blk g14 27 cs3])) := hs
        have e167 : ρ 80 = .agg cs160.toArray := (hp 1 rfl).1
        refine WL.storeAll (vs := cs160) hs (Λx.length + 0) (getApp rfl) TI27 (hu 7 rfl) e167 rfl hl161 (hs.ones (Γx.length + 0) (getApp rfl) rfl) rfl (fun w hs => ?_)
        have hs := hs.backP
        exact WL.nil ⟨rfl, _, rfl, trivial, hs.cutG 0 0⟩
      · intro ρ w hs hu168 hp
        obtain ⟨⟨⟨⟨⟨⟨⟨_, hp0_⟩, hp1_⟩, hp2_⟩, hp3_⟩, hp4_⟩, hp5_⟩, hp6_⟩ := hp
        have hs : St ok (bz w0) w [vl t_network_Network x158 (.agg cs160.toArray), vl t_network_Network x152 (.agg cs154.toArray), vl (tInt .i64) x9.Kind (.int .i64 x9.Kind), vl (tInt .i64) x1.Next (.int .i64 x1.Next), vl (tInt .i64) x9.N (.int .i64 x9.N), vl t_network_Network x1 (.agg cs3.toArray), vl t_network_Network x5 (.agg cs7.toArray), vl t_elasticstorelaw34_Act x9 (.agg cs11.toArray)] [blk g18 27 cs160, blk g17 27 cs154, blk g162 27 cs160, blk g156 27 cs154, blk g16 33 cs11, blk g15 27 cs7, blk g14 27 cs3] := hs
        have e169 : ρ 83 = .bool (x153 == x159) := hp4_
        have e170 : ρ 82 = .bool x159 := hp3_
        have e171 : ρ 81 = .bool x153 := hp2_
        have e172 : ρ 80 = .agg cs160.toArray := hp1_
        have e173 : ρ 79 = .agg cs154.toArray := hp0_
        refine WA.step [7] (by kernel_rfl) (by simp) ⟨?_, trivial⟩
        refine WL.assign (v := .bool (x153 == x159)) e169 ?_
        refine WL.nil ⟨rfl, _, rfl, ?_⟩
        refine WA.done (by kernel_rfl) ?_
        refine hK163 _ _ ?_
        refine W.ret ?_
        have hr := Option.some.inj hf; subst hr
        exact ⟨_, resOk_three rfl (res_all hs 1 rfl TI27 (hu168 6 rfl) hl155) (res_all hs 0 rfl TI27 (hu168 7 rfl) hl161) rfl, (cs154, cs160), rfl, (hs.mask []).pick [1, 0]⟩
    · refine W.cond_false (bool_tr rfl hc150) ?_
      refine W.seqK fun K174 hK174 => ?_
      refine W.region ?_
      refine WL.bin (v := .bool (x28 == 2)) rfl rfl (ib_eql _ _ _) ?_
      refine WL.assign (v := .bool (x28 == 2)) rfl ?_
      refine WL.nil ?_
      refine hK174 _ _ ?_
      rcases iteE hf with ⟨hc175, hf⟩ | ⟨hc175, hf⟩
      · refine W.cond_true (bool_tr rfl hc175) ?_
        refine W.seqK fun K176 hK176 => ?_
        refine W.region ?_
        refine WL.loadAll hs 4 rfl TI27 rfl hl4 ?_
        refine WL.move (v := .int .i64 x24) rfl ?_
        obtain ⟨⟨x177, x178, x179⟩, hxx177, hf⟩ := bindE hf
        refine WL.call (vs := [.agg cs3.toArray, .int .i64 x24]) hs FN18 ⟨rfl, ⟨rfl, trivial⟩⟩ (fun ok hA => network_Duplicate.calls (x1 := x1) (x5 := x24) hxx177 (hA.get 3 rfl)) ?_
        rintro cs180 w hs
        have hl181 := hs.agglen (n := 3) 0 rfl rfl rfl
        refine WL.move (v := .tuple #[.agg cs180.toArray, .int .i64 x178, .bool x179]) rfl ?_
        refine WL.extract (v := .agg cs180.toArray) rfl rfl ?_
        refine WL.extract (v := .int .i64 x178) rfl rfl ?_
        refine WL.extract (v := .bool x179) rfl rfl ?_
        refine WL.alloc hs ZV27 (fun g182 w hs => ?_)
        refine WL.storeAll (vs := cs180) hs 0 rfl TI27 rfl rfl rfl hl181 (hs.ones 0 rfl rfl) rfl (fun w hs => ?_)
        refine WL.assign (v := .int .i64 x178) rfl ?_
        refine WL.assign (v := .bool x179) rfl ?_
        refine WL.nil ?_
        refine hK176 _ _ ?_
        refine W.seqK fun K183 hK183 => ?_
        refine W.region ?_
        refine WL.loadAll hs 4 rfl TI27 rfl hl8 ?_
        refine WL.move (v := .int .i64 x24) rfl ?_
        obtain ⟨⟨x184, x185, x186⟩, hxx184, hf⟩ := bindE hf
        refine WL.call (vs := [.agg cs7.toArray, .int .i64 x24]) hs FN35 ⟨rfl, ⟨rfl, trivial⟩⟩ (fun ok hA => esref36_Duplicate.calls (x1 := x5) (x5 := x24) hxx184 (hA.get 5 rfl)) ?_
        rintro cs187 w hs
        have hl188 := hs.agglen (n := 3) 0 rfl rfl rfl
        refine WL.move (v := .tuple #[.agg cs187.toArray, .int .i64 x185, .bool x186]) rfl ?_
        refine WL.extract (v := .agg cs187.toArray) rfl rfl ?_
        refine WL.extract (v := .int .i64 x185) rfl rfl ?_
        refine WL.extract (v := .bool x186) rfl rfl ?_
        refine WL.alloc hs ZV27 (fun g189 w hs => ?_)
        refine WL.storeAll (vs := cs187) hs 0 rfl TI27 rfl rfl rfl hl188 (hs.ones 0 rfl rfl) rfl (fun w hs => ?_)
        refine WL.assign (v := .int .i64 x185) rfl ?_
        refine WL.assign (v := .bool x186) rfl ?_
        refine WL.nil ?_
        refine hK183 _ _ ?_
        refine W.seqK fun K190 hK190 => ?_
        have Jk207 : ∀ (x192 : Bool) (x193 : Int) (x194 : List network_Packet) (x197 : List network_Side) (x200 : Int) (x201 : List network_Packet) (x204 : List network_Side) (a195 : Option Addr) (c196 : Nat) (a198 : Option Addr) (c199 : Nat) (a202 : Option Addr) (c203 : Nat) (a205 : Option Addr) (c206 : Nat) (ρ : Env) (w : World), ρ 6 = .pointer (some ⟨g17, 0, none⟩) → ρ 7 = .pointer (some ⟨g18, 0, none⟩) → ρ 8 = .bool x192 → St ok (bz w0) w [vl (tSlice t_network_Packet) x194 (.slice a195 x194.length c196), vl (tSlice t_network_Side) x197 (.slice a198 x197.length c199), vl (tSlice t_network_Packet) x201 (.slice a202 x201.length c203), vl (tSlice t_network_Side) x204 (.slice a205 x204.length c206)] [blk g18 27 [.int .i64 x193, .slice a195 x194.length c196, .slice a198 x197.length c199], blk g17 27 [.int .i64 x200, .slice a202 x201.length c203, .slice a205 x204.length c206]] → eslaw34_step.j2 x192 x193 x194 x197 x200 x201 x204 = some r → K190 ρ w := by
          intro x192 x193 x194 x197 x200 x201 x204 a195 c196 a198 c199 a202 c203 a205 c206 ρ w h191_6 h191_7 h191_8 hs hf
          refine hK190 _ _ ?_
          unfold eslaw34_step.j2 at hf
          refine W.ret ?_
          have hr := Option.some.inj hf; subst hr
          have hs := hs.add (it := vl t_network_Network (⟨x200, x201, x204⟩ : network_Network) (.agg [.int .i64 x200, .slice a202 x201.length c203, .slice a205 x204.length c206].toArray)) fun ok hA => V_agg (show t_network_Network.R ok _ _ _ from ⟨[.int .i64 x200], [.slice a202 x201.length c203, .slice a205 x204.length c206], rfl, rfl, ⟨[.slice a202 x201.length c203], [.slice a205 x204.length c206], rfl, (R_one (hA.get 2 rfl)), (R_one (hA.get 3 rfl))⟩⟩) rfl
          have hs := hs.add (it := vl t_network_Network (⟨x193, x194, x197⟩ : network_Network) (.agg [.int .i64 x193, .slice a195 x194.length c196, .slice a198 x197.length c199].toArray)) fun ok hA => V_agg (show t_network_Network.R ok _ _ _ from ⟨[.int .i64 x193], [.slice a195 x194.length c196, .slice a198 x197.length c199], rfl, rfl, ⟨[.slice a195 x194.length c196], [.slice a198 x197.length c199], rfl, (R_one (hA.get 1 rfl)), (R_one (hA.get 2 rfl))⟩⟩) rfl
          exact ⟨_, resOk_three rfl (res_all hs 1 rfl TI27 h191_6 rfl) (res_all hs 0 rfl TI27 h191_7 rfl) h191_8, ([.int .i64 x200, .slice a202 x201.length c203, .slice a205 x204.length c206], [.int .i64 x193, .slice a195 x194.length c196, .slice a198 x197.length c199]), rfl, (hs.mask []).pick [1, 0]⟩
        rcases iteE hf with ⟨hc208, hf⟩ | ⟨hc208, hf⟩
        · have hs := hs.front 3 rfl
          have hs := hs.front 3 rfl
          refine W.any (by kernel_rfl) 12 1 [true, true, true, true, true, true, true, true, true, true, true, true, false] rfl rfl (poAt [pv (.agg cs180.toArray), pv (.agg cs187.toArray), pv (.bool x179), pv (.bool x186), pv (.bool (x179 == x186)), pv (.bool (x179 == x186)), pv (.int .i64 x178), pv (.int .i64 x185), pv (.bool (x178 == x185)), pv (.bool (x178 == x185)), pw (blk g17 27 [.int .i64 0, .slice none 0 0, .slice none 0 0]) (blk g17 27 cs180), pw (blk g18 27 [.int .i64 0, .slice none 0 0, .slice none 0 0]) (blk g18 27 cs187)]) (Λ := [blk g189 27 cs187, blk g182 27 cs180, blk g16 33 cs11, blk g15 27 cs7, blk g14 27 cs3]) hs (by kernel_rfl) (by kernel_rfl) (by kernel_rfl) ⟨⟨⟨⟨⟨⟨⟨⟨⟨⟨⟨⟨trivial, ?_⟩, ?_⟩, ?_⟩, ?_⟩, ?_⟩, ?_⟩, ?_⟩, ?_⟩, ?_⟩, ?_⟩, ?_⟩, ?_⟩ ?_
          · intro ρ w Γx Λx hs hu hp
            refine WL.loadAll hs (Λx.length + 1) (getApp rfl) TI27 (hu 20 rfl) hl181 ?_
            exact WL.nil ⟨rfl, _, rfl, rfl, hs.cutG 0 0⟩
          · intro ρ w Γx Λx hs hu hp
            refine WL.loadAll hs (Λx.length + 0) (getApp rfl) TI27 (hu 23 rfl) hl188 ?_
            exact WL.nil ⟨rfl, _, rfl, rfl, hs.cutG 0 0⟩
          · intro ρ w Γx Λx hs hu hp
            refine WL.move (v := .bool x179) (hu 22 rfl) ?_
            exact WL.nil ⟨rfl, _, rfl, rfl, hs.cutG 0 0⟩
          · intro ρ w Γx Λx hs hu hp
            refine WL.move (v := .bool x186) (hu 25 rfl) ?_
            exact WL.nil ⟨rfl, _, rfl, rfl, hs.cutG 0 0⟩
          · intro ρ w Γx Λx hs hu hp
            have e209 : ρ 102 = .bool x179 := (hp 2 rfl).1
            have e210 : ρ 103 = .bool x186 := (hp 3 rfl).1
            refine WL.eqB UN4 e209 e210 ?_
            exact WL.nil ⟨rfl, _, rfl, rfl, hs.cutG 0 0⟩
          · intro ρ w Γx Λx hs hu hp
            have e211 : ρ 104 = .bool (x179 == x186) := (hp 4 rfl).1
            refine WL.move (v := .bool (x179 == x186)) e211 ?_
            exact WL.nil ⟨rfl, _, rfl, rfl, hs.cutG 0 0⟩
          · intro ρ w Γx Λx hs hu hp
            have e212 : ρ 105 = .bool (x179 == x186) := (hp 5 rfl).1
            refine WL.move (v := .int .i64 x178) (hu 21 rfl) ?_ (hg := (wanted_of rfl rfl (bool_tr e212 hc208)).trans rfl)
            exact WL.nil ⟨rfl, _, rfl, rfl, hs.cutG 0 0⟩
          · intro ρ w Γx Λx hs hu hp
            have e213 : ρ 105 = .bool (x179 == x186) := (hp 5 rfl).1
            refine WL.move (v := .int .i64 x185) (hu 24 rfl) ?_ (hg := (wanted_of rfl rfl (bool_tr e213 hc208)).trans rfl)
            exact WL.nil ⟨rfl, _, rfl, rfl, hs.cutG 0 0⟩
          · intro ρ w Γx Λx hs hu hp
            have e214 : ρ 106 = .int .i64 x178 := (hp 6 rfl).1
            have e215 : ρ 107 = .int .i64 x185 := (hp 7 rfl).1
            have e216 : ρ 105 = .bool (x179 == x186) := (hp 5 rfl).1
            refine WL.bin (v := .bool (x178 == x185)) e214 e215 (ib_eql _ _ _) ?_ (hg := (wanted_of rfl rfl (bool_tr e216 hc208)).trans rfl)
            exact WL.nil ⟨rfl, _, rfl, rfl, hs.cutG 0 0⟩
          · intro ρ w Γx Λx hs hu hp
            have e217 : ρ 105 = .bool (x179 == x186) := (hp 5 rfl).1
            have e218 : ρ 108 = .bool (x178 == x185) := (hp 8 rfl).1
            refine WL.pickT (v := .bool (x178 == x185)) (bool_tr e217 hc208) e218 ?_
            exact WL.nil ⟨rfl, _, rfl, rfl, hs.cutG 0 0⟩
          · intro ρ w Γx Λx hs hu hp
            have hs : St ok (bz w0) w (Γx ++ [vl t_network_Network x184 (.agg cs187.toArray), vl t_network_Network x177 (.agg cs180.toArray), vl (tInt .i64) x9.Kind (.int .i64 x9.Kind), vl (tInt .i64) x1.Next (.int .i64 x1.Next), vl (tInt .i64) x9.N (.int .i64 x9.N), vl t_network_Network x1 (.agg cs3.toArray), vl t_network_Network x5 (.agg cs7.toArray), vl t_elasticstorelaw34_Act x9 (.agg cs11.toArray)]) (Λx ++ ([blk g17 27 [.int .i64 0, .slice none 0 0, .slice none 0 0]] ++ [blk g189 27 cs187, blk g182 27 cs180, blk g16 33 cs11, blk g15 27 cs7, blk g14 27 cs3])) := hs
            have e219 : ρ 100 = .agg cs180.toArray := (hp 0 rfl).1
            refine WL.storeAll (vs := cs180) hs (Λx.length + 0) (getApp rfl) TI27 (hu 6 rfl) e219 rfl hl181 (hs.ones (Γx.length + 1) (getApp rfl) rfl) rfl (fun w hs => ?_)
            have hs := hs.backP
            exact WL.nil ⟨rfl, _, rfl, trivial, hs.cutG 0 0⟩
          · intro ρ w Γx Λx hs hu hp
            have hs : St ok (bz w0) w (Γx ++ [vl t_network_Network x184 (.agg cs187.toArray), vl t_network_Network x177 (.agg cs180.toArray), vl (tInt .i64) x9.Kind (.int .i64 x9.Kind), vl (tInt .i64) x1.Next (.int .i64 x1.Next), vl (tInt .i64) x9.N (.int .i64 x9.N), vl t_network_Network x1 (.agg cs3.toArray), vl t_network_Network x5 (.agg cs7.toArray), vl t_elasticstorelaw34_Act x9 (.agg cs11.toArray)]) (Λx ++ ([blk g18 27 [.int .i64 0, .slice none 0 0, .slice none 0 0]] ++ [blk g189 27 cs187, blk g182 27 cs180, blk g16 33 cs11, blk g15 27 cs7, blk g14 27 cs3])) := hs
            have e220 : ρ 101 = .agg cs187.toArray := (hp 1 rfl).1
            refine WL.storeAll (vs := cs187) hs (Λx.length + 0) (getApp rfl) TI27 (hu 7 rfl) e220 rfl hl188 (hs.ones (Γx.length + 0) (getApp rfl) rfl) rfl (fun w hs => ?_)
            have hs := hs.backP
            exact WL.nil ⟨rfl, _, rfl, trivial, hs.cutG 0 0⟩
          · intro ρ w hs hu221 hp
            obtain ⟨⟨⟨⟨⟨⟨⟨⟨⟨⟨⟨⟨_, hp0_⟩, hp1_⟩, hp2_⟩, hp3_⟩, hp4_⟩, hp5_⟩, hp6_⟩, hp7_⟩, hp8_⟩, hp9_⟩, hp10_⟩, hp11_⟩ := hp
            have hs : St ok (bz w0) w [vl t_network_Network x184 (.agg cs187.toArray), vl t_network_Network x177 (.agg cs180.toArray), vl (tInt .i64) x9.Kind (.int .i64 x9.Kind), vl (tInt .i64) x1.Next (.int .i64 x1.Next), vl (tInt .i64) x9.N (.int .i64 x9.N), vl t_network_Network x1 (.agg cs3.toArray), vl t_network_Network x5 (.agg cs7.toArray), vl t_elasticstorelaw34_Act x9 (.agg cs11.toArray)] [blk g18 27 cs187, blk g17 27 cs180, blk g189 27 cs187, blk g182 27 cs180, blk g16 33 cs11, blk g15 27 cs7, blk g14 27 cs3] := hs
            have e222 : ρ 109 = .bool (x178 == x185) := hp9_
            have e223 : ρ 108 = .bool (x178 == x185) := hp8_
            have e224 : ρ 107 = .int .i64 x185 := hp7_
            have e225 : ρ 106 = .int .i64 x178 := hp6_
            have e226 : ρ 105 = .bool (x179 == x186) := hp5_
            have e227 : ρ 104 = .bool (x179 == x186) := hp4_
            have e228 : ρ 103 = .bool x186 := hp3_
            have e229 : ρ 102 = .bool x179 := hp2_
            have e230 : ρ 101 = .agg cs187.toArray := hp1_
            have e231 : ρ 100 = .agg cs180.toArray := hp0_
            refine WA.step [12] (by kernel_rfl) (by simp) ⟨?_, trivial⟩
            refine WL.assign (v := .bool (x178 == x185)) e222 ?_
            refine WL.nil ⟨rfl, _, rfl, ?_⟩
            refine WA.done (by kernel_rfl) ?_
            obtain ⟨a240, c241, a242, c243, rfl⟩ := open_network_Network hs 0 rfl
            have hs := hs.add (it := vl (tSlice t_network_Packet) x184.Packets (.slice a240 (x184.Packets).length c241)) fun ok hA => V_fld F_network_Network_Packets (hA.get 0 rfl) rfl rfl rfl
            have hs := hs.add (it := vl (tSlice t_network_Side) x184.Sides (.slice a242 (x184.Sides).length c243)) fun ok hA => V_fld F_network_Network_Sides (hA.get 1 rfl) rfl rfl rfl
            obtain ⟨a244, c245, a246, c247, rfl⟩ := open_network_Network hs 3 rfl
            have hs := hs.add (it := vl (tSlice t_network_Packet) x177.Packets (.slice a244 (x177.Packets).length c245)) fun ok hA => V_fld F_network_Network_Packets (hA.get 3 rfl) rfl rfl rfl
            have hs := hs.add (it := vl (tSlice t_network_Side) x177.Sides (.slice a246 (x177.Sides).length c247)) fun ok hA => V_fld F_network_Network_Sides (hA.get 4 rfl) rfl rfl rfl
            exact Jk207 (x178 == x185) x184.Next x184.Packets x184.Sides x177.Next x177.Packets x177.Sides a240 c241 a242 c243 a244 c245 a246 c247 _ _ (hu221 6 rfl) (hu221 7 rfl) rfl ((hs.mask [true, true]).pick [3, 2, 1, 0]) hf
        · have hs := hs.front 3 rfl
          have hs := hs.front 3 rfl
          refine W.any (by kernel_rfl) 12 1 [true, true, true, true, true, true, true, true, true, true, true, true, false] rfl rfl (poAt [pv (.agg cs180.toArray), pv (.agg cs187.toArray), pv (.bool x179), pv (.bool x186), pv (.bool (x179 == x186)), pv (.bool (x179 == x186)), pv (undef), pv (undef), pv (undef), pv (.bool false), pw (blk g17 27 [.int .i64 0, .slice none 0 0, .slice none 0 0]) (blk g17 27 cs180), pw (blk g18 27 [.int .i64 0, .slice none 0 0, .slice none 0 0]) (blk g18 27 cs187)]) (Λ := [blk g189 27 cs187, blk g182 27 cs180, blk g16 33 cs11, blk g15 27 cs7, blk g14 27 cs3]) hs (by kernel_rfl) (by kernel_rfl) (by kernel_rfl) ⟨⟨⟨⟨⟨⟨⟨⟨⟨⟨⟨⟨trivial, ?_⟩, ?_⟩, ?_⟩, ?_⟩, ?_⟩, ?_⟩, ?_⟩, ?_⟩, ?_⟩, ?_⟩, ?_⟩, ?_⟩ ?_
          · intro ρ w Γx Λx hs hu hp
            refine WL.loadAll hs (Λx.length + 1) (getApp rfl) TI27 (hu 20 rfl) hl181 ?_
            exact WL.nil ⟨rfl, _, rfl, rfl, hs.cutG 0 0⟩
          · intro ρ w Γx Λx hs hu hp
            refine WL.loadAll hs (Λx.length + 0) (getApp rfl) TI27 (hu 23 rfl) hl188 ?_
            exact WL.nil ⟨rfl, _, rfl, rfl, hs.cutG 0 0⟩
          · intro ρ w Γx Λx hs hu hp
            refine WL.move (v := .bool x179) (hu 22 rfl) ?_
            exact WL.nil ⟨rfl, _, rfl, rfl, hs.cutG 0 0⟩
          · intro ρ w Γx Λx hs hu hp
            refine WL.move (v := .bool x186) (hu 25 rfl) ?_
            exact WL.nil ⟨rfl, _, rfl, rfl, hs.cutG 0 0⟩
          · intro ρ w Γx Λx hs hu hp
            have e248 : ρ 102 = .bool x179 := (hp 2 rfl).1
            have e249 : ρ 103 = .bool x186 := (hp 3 rfl).1
            refine WL.eqB UN4 e248 e249 ?_
            exact WL.nil ⟨rfl, _, rfl, rfl, hs.cutG 0 0⟩
          · intro ρ w Γx Λx hs hu hp
            have e250 : ρ 104 = .bool (x179 == x186) := (hp 4 rfl).1
            refine WL.move (v := .bool (x179 == x186)) e250 ?_
            exact WL.nil ⟨rfl, _, rfl, rfl, hs.cutG 0 0⟩
          · intro ρ w Γx Λx hs hu hp
            have e251 : ρ 105 = .bool (x179 == x186) := (hp 5 rfl).1
            refine WL.pass ((wanted_of rfl rfl (bool_tr e251 hc208)).trans rfl) rfl ?_
            exact WL.nil ⟨rfl, _, rfl, rfl, hs.cutG 0 0⟩
          · intro ρ w Γx Λx hs hu hp
            have e252 : ρ 105 = .bool (x179 == x186) := (hp 5 rfl).1
            refine WL.pass ((wanted_of rfl rfl (bool_tr e252 hc208)).trans rfl) rfl ?_
            exact WL.nil ⟨rfl, _, rfl, rfl, hs.cutG 0 0⟩
          · intro ρ w Γx Λx hs hu hp
            have e253 : ρ 106 = undef := (hp 6 rfl).1
            have e254 : ρ 107 = undef := (hp 7 rfl).1
            have e255 : ρ 105 = .bool (x179 == x186) := (hp 5 rfl).1
            refine WL.pass ((wanted_of rfl rfl (bool_tr e255 hc208)).trans rfl) rfl ?_
            exact WL.nil ⟨rfl, _, rfl, rfl, hs.cutG 0 0⟩
          · intro ρ w Γx Λx hs hu hp
            have e256 : ρ 105 = .bool (x179 == x186) := (hp 5 rfl).1
            have e257 : ρ 108 = undef := (hp 8 rfl).1
            refine WL.pickF (v := .bool false) (bool_tr e256 hc208) rfl ?_
            exact WL.nil ⟨rfl, _, rfl, rfl, hs.cutG 0 0⟩
          · intro ρ w Γx Λx hs hu hp
            have hs : St ok (bz w0) w (Γx ++ [vl t_network_Network x184 (.agg cs187.toArray), vl t_network_Network x177 (.agg cs180.toArray), vl (tInt .i64) x9.Kind (.int .i64 x9.Kind), vl (tInt .i64) x1.Next (.int .i64 x1.Next), vl (tInt .i64) x9.N (.int .i64 x9.N), vl t_network_Network x1 (.agg cs3.toArray), vl t_network_Network x5 (.agg cs7.toArray), vl t_elasticstorelaw34_Act x9 (.agg cs11.toArray)]) (Λx ++ ([blk g17 27 [.int .i64 0, .slice none 0 0, .slice none 0 0]] ++ [blk g189 27 cs187, blk g182 27 cs180, blk g16 33 cs11, blk g15 27 cs7, blk g14 27 cs3])) := hs
            have e258 : ρ 100 = .agg cs180.toArray := (hp 0 rfl).1
            refine WL.storeAll (vs := cs180) hs (Λx.length + 0) (getApp rfl) TI27 (hu 6 rfl) e258 rfl hl181 (hs.ones (Γx.length + 1) (getApp rfl) rfl) rfl (fun w hs => ?_)
            have hs := hs.backP
            exact WL.nil ⟨rfl, _, rfl, trivial, hs.cutG 0 0⟩
          · intro ρ w Γx Λx hs hu hp
            have hs : St ok (bz w0) w (Γx ++ [vl t_network_Network x184 (.agg cs187.toArray), vl t_network_Network x177 (.agg cs180.toArray), vl (tInt .i64) x9.Kind (.int .i64 x9.Kind), vl (tInt .i64) x1.Next (.int .i64 x1.Next), vl (tInt .i64) x9.N (.int .i64 x9.N), vl t_network_Network x1 (.agg cs3.toArray), vl t_network_Network x5 (.agg cs7.toArray), vl t_elasticstorelaw34_Act x9 (.agg cs11.toArray)]) (Λx ++ ([blk g18 27 [.int .i64 0, .slice none 0 0, .slice none 0 0]] ++ [blk g189 27 cs187, blk g182 27 cs180, blk g16 33 cs11, blk g15 27 cs7, blk g14 27 cs3])) := hs
            have e259 : ρ 101 = .agg cs187.toArray := (hp 1 rfl).1
            refine WL.storeAll (vs := cs187) hs (Λx.length + 0) (getApp rfl) TI27 (hu 7 rfl) e259 rfl hl188 (hs.ones (Γx.length + 0) (getApp rfl) rfl) rfl (fun w hs => ?_)
            have hs := hs.backP
            exact WL.nil ⟨rfl, _, rfl, trivial, hs.cutG 0 0⟩
          · intro ρ w hs hu260 hp
            obtain ⟨⟨⟨⟨⟨⟨⟨⟨⟨⟨⟨⟨_, hp0_⟩, hp1_⟩, hp2_⟩, hp3_⟩, hp4_⟩, hp5_⟩, hp6_⟩, hp7_⟩, hp8_⟩, hp9_⟩, hp10_⟩, hp11_⟩ := hp
            have hs : St ok (bz w0) w [vl t_network_Network x184 (.agg cs187.toArray), vl t_network_Network x177 (.agg cs180.toArray), vl (tInt .i64) x9.Kind (.int .i64 x9.Kind), vl (tInt .i64) x1.Next (.int .i64 x1.Next), vl (tInt .i64) x9.N (.int .i64 x9.N), vl t_network_Network x1 (.agg cs3.toArray), vl t_network_Network x5 (.agg cs7.toArray), vl t_elasticstorelaw34_Act x9 (.agg cs11.toArray)] [blk g18 27 cs187, blk g17 27 cs180, blk g189 27 cs187, blk g182 27 cs180, blk g16 33 cs11, blk g15 27 cs7, blk g14 27 cs3] := hs
            have e261 : ρ 109 = .bool false := hp9_
            have e262 : ρ 108 = undef := hp8_
            have e263 : ρ 107 = undef := hp7_
            have e264 : ρ 106 = undef := hp6_
            have e265 : ρ 105 = .bool (x179 == x186) := hp5_
            have e266 : ρ 104 = .bool (x179 == x186) := hp4_
            have e267 : ρ 103 = .bool x186 := hp3_
            have e268 : ρ 102 = .bool x179 := hp2_
            have e269 : ρ 101 = .agg cs187.toArray := hp1_
            have e270 : ρ 100 = .agg cs180.toArray := hp0_
            refine WA.step [12] (by kernel_rfl) (by simp) ⟨?_, trivial⟩
            refine WL.assign (v := .bool false) e261 ?_
            refine WL.nil ⟨rfl, _, rfl, ?_⟩
            refine WA.done (by kernel_rfl) ?_
            obtain ⟨a279, c280, a281, c282, rfl⟩ := open_network_Network hs 0 rfl
            have hs := hs.add (it := vl (tSlice t_network_Packet) x184.Packets (.slice a279 (x184.Packets).length c280)) fun ok hA => V_fld F_network_Network_Packets (hA.get 0 rfl) rfl rfl rfl
            have hs := hs.add (it := vl (tSlice t_network_Side) x184.Sides (.slice a281 (x184.Sides).length c282)) fun ok hA => V_fld F_network_Network_Sides (hA.get 1 rfl) rfl rfl rfl
            obtain ⟨a283, c284, a285, c286, rfl⟩ := open_network_Network hs 3 rfl
            have hs := hs.add (it := vl (tSlice t_network_Packet) x177.Packets (.slice a283 (x177.Packets).length c284)) fun ok hA => V_fld F_network_Network_Packets (hA.get 3 rfl) rfl rfl rfl
            have hs := hs.add (it := vl (tSlice t_network_Side) x177.Sides (.slice a285 (x177.Sides).length c286)) fun ok hA => V_fld F_network_Network_Sides (hA.get 4 rfl) rfl rfl rfl
            exact Jk207 false x184.Next x184.Packets x184.Sides x177.Next x177.Packets x177.Sides a279 c280 a281 c282 a283 c284 a285 c286 _ _ (hu260 6 rfl) (hu260 7 rfl) rfl ((hs.mask [true, true]).pick [3, 2, 1, 0]) hf
      · refine W.cond_false (bool_tr rfl hc175) ?_
        refine W.seqK fun K287 hK287 => ?_
        refine W.region ?_
        refine WL.bin (v := .bool (x28 == 3)) rfl rfl (ib_eql _ _ _) ?_
        refine WL.assign (v := .bool (x28 == 3)) rfl ?_
        refine WL.nil ?_
        refine hK287 _ _ ?_
        rcases iteE hf with ⟨hc288, hf⟩ | ⟨hc288, hf⟩
        · refine W.cond_true (bool_tr rfl hc288) ?_
          refine W.seqK fun K289 hK289 => ?_
          refine W.region ?_
          refine WL.fieldAddr (m := 3) rfl FA33_3 rfl ?_
          refine WL.loadF (z := x9.Sides) F_elasticstorelaw34_Act_Sides hs 2 rfl 5 rfl rfl TI23 (.inr rfl) rfl rfl (fun v290 hs => ?_)
          obtain ⟨a291, c292, rfl⟩ := hs.slice 0 rfl
          refine WL.fieldAddr (m := 3) rfl FA33_3 rfl ?_
          refine WL.loadF (z := x9.Sides) F_elasticstorelaw34_Act_Sides hs 2 rfl 6 rfl rfl TI23 (.inr rfl) rfl rfl (fun v293 hs => ?_)
          obtain ⟨a294, c295, rfl⟩ := hs.slice 0 rfl
          refine WL.len (v := .slice a294 (x9.Sides).length c295) rfl (len_slice UN23) ?_
          refine WL.min rfl rfl ?_
          obtain ⟨x296, hxx296, hf⟩ := bindE hf
          refine WL.slice_h hs 1 rfl UN23 TI69 rfl rfl hxx296 (fun a297 c298 hs => ?_)
          refine WL.assign (v := .slice a297 x296.length c298) rfl ?_
          refine WL.nil ?_
          refine hK289 _ _ ?_
          refine W.seqK fun K299 hK299 => ?_
          obtain ⟨x300, hxx300, hf⟩ := bindE hf
          obtain ⟨x303, hxx303, hf⟩ := bindE hf
          refine W.any (by kernel_rfl) 6 3 [true, true, true, true, true, true, false, false, false] rfl rfl (poAt [pv (.agg cs3.toArray), pv (.slice a297 x296.length c298), pq (fun y : List Value => .agg y.toArray) (fun v => [vl t_network_Network x300 v]) (fun v => []), pv (.agg cs7.toArray), pv (.slice a297 x296.length c298), pq (fun y : List Value => .agg y.toArray) (fun v => [vl t_network_Network x303 v]) (fun v => [])]) (Λ := [blk g18 27 [.int .i64 0, .slice none 0 0, .slice none 0 0], blk g17 27 [.int .i64 0, .slice none 0 0, .slice none 0 0], blk g16 33 cs11, blk g15 27 cs7, blk g14 27 cs3]) hs (by kernel_rfl) (by kernel_rfl) (by kernel_rfl) ⟨⟨⟨⟨⟨⟨trivial, ?_⟩, ?_⟩, ?_⟩, ?_⟩, ?_⟩, ?_⟩ ?_
          · intro ρ w Γx Λx hs hu hp
            refine WL.loadAll hs (Λx.length + 4) (getApp rfl) TI27 (hu 3 rfl) hl4 ?_
            exact WL.nil ⟨rfl, _, rfl, rfl, hs.cutG 0 0⟩
          · intro ρ w Γx Λx hs hu hp
            refine WL.move (v := .slice a297 x296.length c298) (hu 26 rfl) ?_
            exact WL.nil ⟨rfl, _, rfl, rfl, hs.cutG 0 0⟩
          · intro ρ w Γx Λx hs hu hp
            have e306 : ρ 119 = .agg cs3.toArray := (hp 0 rfl).1
            have e307 : ρ 120 = .slice a297 x296.length c298 := (hp 1 rfl).1
            refine WL.call (vs := [.agg cs3.toArray, .slice a297 x296.length c298]) hs FN12 ⟨e306, ⟨e307, trivial⟩⟩ (fun ok hA => network_Partition.callc (x1 := x1) (x5 := x296) hxx300 (hA.get (Γx.length + 6) (getApp rfl)) (hA.get (Γx.length + 0) (getApp rfl))) ?_
            rintro cs301 w hs
            have hl302 := hs.agglen (n := 3) 0 rfl rfl rfl
            have hs := hs.add (it := vl t_network_Network x300 (.agg cs301.toArray)) fun ok hA => hA.get 0 rfl
            exact WL.nil ⟨rfl, _, rfl, ⟨cs301, rfl⟩, hs.cutG 1 1⟩
          · intro ρ w Γx Λx hs hu hp
            refine WL.loadAll hs (Λx.length + 3) (getApp rfl) TI27 (hu 4 rfl) hl8 ?_
            exact WL.nil ⟨rfl, _, rfl, rfl, hs.cutG 0 0⟩
          · intro ρ w Γx Λx hs hu hp
            refine WL.move (v := .slice a297 x296.length c298) (hu 26 rfl) ?_
            exact WL.nil ⟨rfl, _, rfl, rfl, hs.cutG 0 0⟩
          · intro ρ w Γx Λx hs hu hp
            have e308 : ρ 122 = .agg cs7.toArray := (hp 3 rfl).1
            have e309 : ρ 123 = .slice a297 x296.length c298 := (hp 4 rfl).1
            refine WL.call (vs := [.agg cs7.toArray, .slice a297 x296.length c298]) hs FN36 ⟨e308, ⟨e309, trivial⟩⟩ (fun ok hA => esref36_Partition.callc (x1 := x5) (x5 := x296) hxx303 (hA.get (Γx.length + 7) (getApp rfl)) (hA.get (Γx.length + 0) (getApp rfl))) ?_
            rintro cs304 w hs
            have hl305 := hs.agglen (n := 3) 0 rfl rfl rfl
            have hs := hs.add (it := vl t_network_Network x303 (.agg cs304.toArray)) fun ok hA => hA.get 0 rfl
            exact WL.nil ⟨rfl, _, rfl, ⟨cs304, rfl⟩, hs.cutG 1 1⟩
          · intro ρ w hs hu310 hp
            obtain ⟨⟨⟨⟨⟨⟨_, hp0_⟩, hp1_⟩, hp2_⟩, hp3_⟩, hp4_⟩, hp5_⟩ := hp
            have hs : St ok (bz w0) w [vl t_network_Network x303 (ρ 124), vl t_network_Network x300 (ρ 121), vl (tSlice t_network_Side) x296 (.slice a297 x296.length c298), vl (tSlice t_network_Side) x9.Sides (.slice a294 (x9.Sides).length c295), vl (tSlice t_network_Side) x9.Sides (.slice a291 (x9.Sides).length c292), vl (tInt .i64) x9.Kind (.int .i64 x9.Kind), vl (tInt .i64) x1.Next (.int .i64 x1.Next), vl (tInt .i64) x9.N (.int .i64 x9.N), vl t_network_Network x1 (.agg cs3.toArray), vl t_network_Network x5 (.agg cs7.toArray), vl t_elasticstorelaw34_Act x9 (.agg cs11.toArray)] [blk g18 27 [.int .i64 0, .slice none 0 0, .slice none 0 0], blk g17 27 [.int .i64 0, .slice none 0 0, .slice none 0 0], blk g16 33 cs11, blk g15 27 cs7, blk g14 27 cs3] := hs
            obtain ⟨cs311, e313⟩ := hp5_
            have e313 : ρ 124 = .agg cs311.toArray := e313
            try rw [e313] at hs
            have e314 : ρ 123 = .slice a297 x296.length c298 := hp4_
            have e315 : ρ 122 = .agg cs7.toArray := hp3_
            obtain ⟨cs316, e318⟩ := hp2_
            have e318 : ρ 121 = .agg cs316.toArray := e318
            try rw [e318] at hs
            have e319 : ρ 120 = .slice a297 x296.length c298 := hp1_
            have e320 : ρ 119 = .agg cs3.toArray := hp0_
            have hl317 := hs.agglen (n := 3) 1 rfl rfl rfl
            have hl312 := hs.agglen (n := 3) 0 rfl rfl rfl
            refine WA.step [6] (by kernel_rfl) (by simp) ⟨?_, trivial⟩
            refine WL.storeAll (vs := cs316) hs 1 rfl TI27 (hu310 6 rfl) e318 rfl hl317 (hs.ones 1 rfl rfl) rfl (fun w hs => ?_)
            refine WL.nil ⟨rfl, _, rfl, ?_⟩
            refine WA.step [7] (by kernel_rfl) (by simp) ⟨?_, trivial⟩
            refine WL.storeAll (vs := cs311) hs 0 rfl TI27 (hu310 7 rfl) e313 rfl hl312 (hs.ones 0 rfl rfl) rfl (fun w hs => ?_)
            refine WL.nil ⟨rfl, _, rfl, ?_⟩
            refine WA.step [8] (by kernel_rfl) (by simp) ⟨?_, trivial⟩
            refine WL.assign (v := .bool true) rfl ?_
            refine WL.nil ⟨rfl, _, rfl, ?_⟩
            refine WA.done (by kernel_rfl) ?_
            refine hK299 _ _ ?_
            refine W.ret ?_
            have hr := Option.some.inj hf; subst hr
            exact ⟨_, resOk_three rfl (res_all hs 1 rfl TI27 (hu310 6 rfl) hl317) (res_all hs 0 rfl TI27 (hu310 7 rfl) hl312) rfl, (cs316, cs311), rfl, (hs.mask []).pick [1, 0]⟩
        · refine W.cond_false (bool_tr rfl hc288) ?_
          refine W.seqK fun K321 hK321 => ?_
          refine W.region ?_
          refine WL.bin (v := .bool (x28 == 4)) rfl rfl (ib_eql _ _ _) ?_
          refine WL.assign (v := .bool (x28 == 4)) rfl ?_
          refine WL.nil ?_
          refine hK321 _ _ ?_
          rcases iteE hf with ⟨hc322, hf⟩ | ⟨hc322, hf⟩
          · refine W.cond_true (bool_tr rfl hc322) ?_
            refine W.seqK fun K323 hK323 => ?_
            obtain ⟨x325, hxx325, hf⟩ := bindE hf
            obtain ⟨x326, ex326, hf⟩ := letE hf
            obtain ⟨x328, hxx328, hf⟩ := bindE hf
            obtain ⟨x330, hxx330, hf⟩ := bindE hf
            obtain ⟨x331, ex331, hf⟩ := letE hf
            refine W.any (by kernel_rfl) 14 1 [true, true, true, true, true, true, true, true, true, true, true, true, true, true, false] rfl rfl (poAt [pv (.pointer (some ⟨g16, 1, none⟩)), pv (.int .i64 x9.N), pv (.int .i64 x325), pv (.int .i64 x326), pv (.pointer (some ⟨g16, 2, none⟩)), pv (.int .i64 x9.M), pv (.int .i64 x328), pv (.agg ([.int .i64 x326, .int .i64 x328] : List Value).toArray), pv (.pointer (some ⟨g16, 2, none⟩)), pv (.int .i64 x9.M), pv (.int .i64 x330), pv (.int .i64 x331), pv (.agg ([.int .i64 x331, .int .i64 1] : List Value).toArray), pq (fun y : (Option Addr × Nat) => .slice y.1 ([(⟨x326, x328⟩ : network_Side), (⟨x331, 1⟩ : network_Side)]).length y.2) (fun v => [vl (tSlice t_network_Side) [(⟨x326, x328⟩ : network_Side), (⟨x331, 1⟩ : network_Side)] v]) (fun v => [])]) (Λ := [blk g18 27 [.int .i64 0, .slice none 0 0, .slice none 0 0], blk g17 27 [.int .i64 0, .slice none 0 0, .slice none 0 0], blk g16 33 cs11, blk g15 27 cs7, blk g14 27 cs3]) hs (by kernel_rfl) (by kernel_rfl) (by kernel_rfl) ⟨⟨⟨⟨⟨⟨⟨⟨⟨⟨⟨⟨⟨⟨trivial, ?_⟩, ?_⟩, ?_⟩, ?_⟩, ?_⟩, ?_⟩, ?_⟩, ?_⟩, ?_⟩, ?_⟩, ?_⟩, ?_⟩, ?_⟩, ?_⟩ ?_
            · intro ρ w Γx Λx hs hu hp
              refine WL.fieldAddr (m := 1) (hu 5 rfl) FA33_1 rfl ?_
              exact WL.nil ⟨rfl, _, rfl, rfl, hs.cutG 0 0⟩
            · intro ρ w Γx Λx hs hu hp
              have e334 : ρ 127 = .pointer (some ⟨g16, 1, none⟩) := (hp 0 rfl).1
              refine WL.loadF (z := x9.N) F_elasticstorelaw34_Act_N hs (Λx.length + 2) (getApp rfl) (Γx.length + 5) (getApp rfl) rfl TI3 (.inr rfl) e334 rfl (fun v324 hs => ?_)
              obtain rfl := hs.int 0 rfl
              exact WL.nil ⟨rfl, _, rfl, rfl, hs.cutG 0 1⟩
            · intro ρ w Γx Λx hs hu hp
              have e335 : ρ 128 = .int .i64 x9.N := (hp 1 rfl).1
              refine WL.call (vs := [.int .i64 x9.N, .int .i64 5]) hs FN17 ⟨e335, ⟨rfl, trivial⟩⟩ (fun ok hA => eslaw00_Index.calls (x1 := x9.N) (x2 := 5) hxx325) ?_
              rintro _ w hs
              exact WL.nil ⟨rfl, _, rfl, rfl, hs.cutG 0 0⟩
            · intro ρ w Γx Λx hs hu hp
              have e336 : ρ 129 = .int .i64 x325 := (hp 2 rfl).1
              refine WL.bin (v := .int .i64 x326) rfl e336 (ib_as ex326 (ib_add _ _ _)) ?_
              exact WL.nil ⟨rfl, _, rfl, rfl, hs.cutG 0 0⟩
            · intro ρ w Γx Λx hs hu hp
              refine WL.fieldAddr (m := 2) (hu 5 rfl) FA33_2 rfl ?_
              exact WL.nil ⟨rfl, _, rfl, rfl, hs.cutG 0 0⟩
            · intro ρ w Γx Λx hs hu hp
              have e337 : ρ 131 = .pointer (some ⟨g16, 2, none⟩) := (hp 4 rfl).1
              refine WL.loadF (z := x9.M) F_elasticstorelaw34_Act_M hs (Λx.length + 2) (getApp rfl) (Γx.length + 5) (getApp rfl) rfl TI3 (.inr rfl) e337 rfl (fun v327 hs => ?_)
              obtain rfl := hs.int 0 rfl
              exact WL.nil ⟨rfl, _, rfl, rfl, hs.cutG 0 1⟩
            · intro ρ w Γx Λx hs hu hp
              have e338 : ρ 132 = .int .i64 x9.M := (hp 5 rfl).1
              refine WL.call (vs := [.int .i64 x9.M, .int .i64 3]) hs FN17 ⟨e338, ⟨rfl, trivial⟩⟩ (fun ok hA => eslaw00_Index.calls (x1 := x9.M) (x2 := 3) hxx328) ?_
              rintro _ w hs
              exact WL.nil ⟨rfl, _, rfl, rfl, hs.cutG 0 0⟩
            · intro ρ w Γx Λx hs hu hp
              have e339 : ρ 130 = .int .i64 x326 := (hp 3 rfl).1
              have e340 : ρ 133 = .int .i64 x328 := (hp 6 rfl).1
              refine WL.build (vs := [(0, .int .i64 x326), (1, .int .i64 x328)]) (cs := [.int .i64 x326, .int .i64 x328]) ⟨⟨rfl, e339⟩, ⟨⟨rfl, e340⟩, trivial⟩⟩ (bld PL69 rfl) ?_
              exact WL.nil ⟨rfl, _, rfl, rfl, hs.cutG 0 0⟩
            · intro ρ w Γx Λx hs hu hp
              refine WL.fieldAddr (m := 2) (hu 5 rfl) FA33_2 rfl ?_
              exact WL.nil ⟨rfl, _, rfl, rfl, hs.cutG 0 0⟩
            · intro ρ w Γx Λx hs hu hp
              have e341 : ρ 135 = .pointer (some ⟨g16, 2, none⟩) := (hp 8 rfl).1
              refine WL.loadF (z := x9.M) F_elasticstorelaw34_Act_M hs (Λx.length + 2) (getApp rfl) (Γx.length + 5) (getApp rfl) rfl TI3 (.inr rfl) e341 rfl (fun v329 hs => ?_)
              obtain rfl := hs.int 0 rfl
              exact WL.nil ⟨rfl, _, rfl, rfl, hs.cutG 0 1⟩
            · intro ρ w Γx Λx hs hu hp
              have e342 : ρ 136 = .int .i64 x9.M := (hp 9 rfl).1
              refine WL.call (vs := [.int .i64 x9.M, .int .i64 5]) hs FN17 ⟨e342, ⟨rfl, trivial⟩⟩ (fun ok hA => eslaw00_Index.calls (x1 := x9.M) (x2 := 5) hxx330) ?_
              rintro _ w hs
              exact WL.nil ⟨rfl, _, rfl, rfl, hs.cutG 0 0⟩
            · intro ρ w Γx Λx hs hu hp
              have e343 : ρ 137 = .int .i64 x330 := (hp 10 rfl).1
              refine WL.bin (v := .int .i64 x331) rfl e343 (ib_as ex331 (ib_add _ _ _)) ?_
              exact WL.nil ⟨rfl, _, rfl, rfl, hs.cutG 0 0⟩
            · intro ρ w Γx Λx hs hu hp
              have e344 : ρ 138 = .int .i64 x331 := (hp 11 rfl).1
              refine WL.build (vs := [(0, .int .i64 x331), (1, .int .i64 1)]) (cs := [.int .i64 x331, .int .i64 1]) ⟨⟨rfl, e344⟩, ⟨⟨rfl, rfl⟩, trivial⟩⟩ (bld PL69 rfl) ?_
              exact WL.nil ⟨rfl, _, rfl, rfl, hs.cutG 0 0⟩
            · intro ρ w Γx Λx hs hu hp
              have e345 : ρ 134 = .agg ([.int .i64 x326, .int .i64 x328] : List Value).toArray := (hp 7 rfl).1
              have e346 : ρ 139 = .agg ([.int .i64 x331, .int .i64 1] : List Value).toArray := (hp 12 rfl).1
              refine WL.buildSliceB (ys := [(⟨x326, x328⟩ : network_Side), (⟨x331, 1⟩ : network_Side)]) (n := 2) (vs := [(0, .agg ([.int .i64 x326, .int .i64 x328] : List Value).toArray), (1, .agg ([.int .i64 x331, .int .i64 1] : List Value).toArray)]) (cs := [.int .i64 x326, .int .i64 x328, .int .i64 x331, .int .i64 1]) hs ⟨⟨rfl, e345⟩, ⟨⟨rfl, e346⟩, trivial⟩⟩ (bls PS23 (by decide) rfl) (fun ok hA => (Cells.app (Cells.one (T := t_network_Side) (show t_network_Side.R ok _ (⟨x326, x328⟩ : network_Side) _ from ⟨[.int .i64 x326], [.int .i64 x328], rfl, rfl, rfl⟩)) (Cells.one (T := t_network_Side) (show t_network_Side.R ok _ (⟨x331, 1⟩ : network_Side) _ from ⟨[.int .i64 x331], [.int .i64 1], rfl, rfl, rfl⟩)))) rfl (by decide) (fun a333 w hBl hs => ?_)
              have hs := hs.add (it := vl (tSlice t_network_Side) [(⟨x326, x328⟩ : network_Side), (⟨x331, 1⟩ : network_Side)] (.slice a333 ([(⟨x326, x328⟩ : network_Side), (⟨x331, 1⟩ : network_Side)]).length 2)) fun ok hA => hA.get 0 rfl
              exact WL.nil ⟨rfl, _, rfl, ⟨(a333, 2), rfl⟩, hs.cutG 1 1⟩
            · intro ρ w hs hu347 hp
              obtain ⟨⟨⟨⟨⟨⟨⟨⟨⟨⟨⟨⟨⟨⟨_, hp0_⟩, hp1_⟩, hp2_⟩, hp3_⟩, hp4_⟩, hp5_⟩, hp6_⟩, hp7_⟩, hp8_⟩, hp9_⟩, hp10_⟩, hp11_⟩, hp12_⟩, hp13_⟩ := hp
              have hs : St ok (bz w0) w [vl (tSlice t_network_Side) [(⟨x326, x328⟩ : network_Side), (⟨x331, 1⟩ : network_Side)] (ρ 140), vl (tInt .i64) x9.Kind (.int .i64 x9.Kind), vl (tInt .i64) x1.Next (.int .i64 x1.Next), vl (tInt .i64) x9.N (.int .i64 x9.N), vl t_network_Network x1 (.agg cs3.toArray), vl t_network_Network x5 (.agg cs7.toArray), vl t_elasticstorelaw34_Act x9 (.agg cs11.toArray)] [blk g18 27 [.int .i64 0, .slice none 0 0, .slice none 0 0], blk g17 27 [.int .i64 0, .slice none 0 0, .slice none 0 0], blk g16 33 cs11, blk g15 27 cs7, blk g14 27 cs3] := hs
              obtain ⟨⟨a348, c349⟩, e350⟩ := hp13_
              have e350 : ρ 140 = .slice a348 ([(⟨x326, x328⟩ : network_Side), (⟨x331, 1⟩ : network_Side)]).length c349 := e350
              try rw [e350] at hs
              have e351 : ρ 139 = .agg ([.int .i64 x331, .int .i64 1] : List Value).toArray := hp12_
              have e352 : ρ 138 = .int .i64 x331 := hp11_
              have e353 : ρ 137 = .int .i64 x330 := hp10_
              have e354 : ρ 136 = .int .i64 x9.M := hp9_
              have e355 : ρ 135 = .pointer (some ⟨g16, 2, none⟩) := hp8_
              have e356 : ρ 134 = .agg ([.int .i64 x326, .int .i64 x328] : List Value).toArray := hp7_
              have e357 : ρ 133 = .int .i64 x328 := hp6_
              have e358 : ρ 132 = .int .i64 x9.M := hp5_
              have e359 : ρ 131 = .pointer (some ⟨g16, 2, none⟩) := hp4_
              have e360 : ρ 130 = .int .i64 x326 := hp3_
              have e361 : ρ 129 = .int .i64 x325 := hp2_
              have e362 : ρ 128 = .int .i64 x9.N := hp1_
              have e363 : ρ 127 = .pointer (some ⟨g16, 1, none⟩) := hp0_
              refine WA.step [14] (by kernel_rfl) (by simp) ⟨?_, trivial⟩
              refine WL.assign (v := .slice a348 ([(⟨x326, x328⟩ : network_Side), (⟨x331, 1⟩ : network_Side)]).length c349) e350 ?_
              refine WL.nil ⟨rfl, _, rfl, ?_⟩
              refine WA.done (by kernel_rfl) ?_
              refine hK323 _ _ ?_
              refine W.seqK fun K364 hK364 => ?_
              obtain ⟨x365, hxx365, hf⟩ := bindE hf
              obtain ⟨x368, hxx368, hf⟩ := bindE hf
              refine W.any (by kernel_rfl) 6 3 [true, true, true, true, true, true, false, false, false] rfl rfl (poAt [pv (.agg cs3.toArray), pv (.slice a348 ([(⟨x326, x328⟩ : network_Side), (⟨x331, 1⟩ : network_Side)]).length c349), pq (fun y : List Value => .agg y.toArray) (fun v => [vl t_network_Network x365 v]) (fun v => []), pv (.agg cs7.toArray), pv (.slice a348 ([(⟨x326, x328⟩ : network_Side), (⟨x331, 1⟩ : network_Side)]).length c349), pq (fun y : List Value => .agg y.toArray) (fun v => [vl t_network_Network x368 v]) (fun v => [])]) (Λ := [blk g18 27 [.int .i64 0, .slice none 0 0, .slice none 0 0], blk g17 27 [.int .i64 0, .slice none 0 0, .slice none 0 0], blk g16 33 cs11, blk g15 27 cs7, blk g14 27 cs3]) hs (by kernel_rfl) (by kernel_rfl) (by kernel_rfl) ⟨⟨⟨⟨⟨⟨trivial, ?_⟩, ?_⟩, ?_⟩, ?_⟩, ?_⟩, ?_⟩ ?_
              · intro ρ w Γx Λx hs hu hp
                refine WL.loadAll hs (Λx.length + 4) (getApp rfl) TI27 ((hu 3 rfl).trans (hu347 3 rfl)) hl4 ?_
                exact WL.nil ⟨rfl, _, rfl, rfl, hs.cutG 0 0⟩
              · intro ρ w Γx Λx hs hu hp
                refine WL.move (v := .slice a348 ([(⟨x326, x328⟩ : network_Side), (⟨x331, 1⟩ : network_Side)]).length c349) (hu 27 rfl) ?_
                exact WL.nil ⟨rfl, _, rfl, rfl, hs.cutG 0 0⟩
              · intro ρ w Γx Λx hs hu hp
                have e371 : ρ 141 = .agg cs3.toArray := (hp 0 rfl).1
                have e372 : ρ 142 = .slice a348 ([(⟨x326, x328⟩ : network_Side), (⟨x331, 1⟩ : network_Side)]).length c349 := (hp 1 rfl).1
                refine WL.call (vs := [.agg cs3.toArray, .slice a348 ([(⟨x326, x328⟩ : network_Side), (⟨x331, 1⟩ : network_Side)]).length c349]) hs FN12 ⟨e371, ⟨e372, trivial⟩⟩ (fun ok hA => network_Partition.callc (x1 := x1) (x5 := [(⟨x326, x328⟩ : network_Side), (⟨x331, 1⟩ : network_Side)]) hxx365 (hA.get (Γx.length + 4) (getApp rfl)) (hA.get (Γx.length + 0) (getApp rfl))) ?_
                rintro cs366 w hs
                have hl367 := hs.agglen (n := 3) 0 rfl rfl rfl
                have hs := hs.add (it := vl t_network_Network x365 (.agg cs366.toArray)) fun ok hA => hA.get 0 rfl
                exact WL.nil ⟨rfl, _, rfl, ⟨cs366, rfl⟩, hs.cutG 1 1⟩
              · intro ρ w Γx Λx hs hu hp
                refine WL.loadAll hs (Λx.length + 3) (getApp rfl) TI27 ((hu 4 rfl).trans (hu347 4 rfl)) hl8 ?_
                exact WL.nil ⟨rfl, _, rfl, rfl, hs.cutG 0 0⟩
              · intro ρ w Γx Λx hs hu hp
                refine WL.move (v := .slice a348 ([(⟨x326, x328⟩ : network_Side), (⟨x331, 1⟩ : network_Side)]).length c349) (hu 27 rfl) ?_
                exact WL.nil ⟨rfl, _, rfl, rfl, hs.cutG 0 0⟩
              · intro ρ w Γx Λx hs hu hp
                have e373 : ρ 144 = .agg cs7.toArray := (hp 3 rfl).1
                have e374 : ρ 145 = .slice a348 ([(⟨x326, x328⟩ : network_Side), (⟨x331, 1⟩ : network_Side)]).length c349 := (hp 4 rfl).1
                refine WL.call (vs := [.agg cs7.toArray, .slice a348 ([(⟨x326, x328⟩ : network_Side), (⟨x331, 1⟩ : network_Side)]).length c349]) hs FN36 ⟨e373, ⟨e374, trivial⟩⟩ (fun ok hA => esref36_Partition.callc (x1 := x5) (x5 := [(⟨x326, x328⟩ : network_Side), (⟨x331, 1⟩ : network_Side)]) hxx368 (hA.get (Γx.length + 5) (getApp rfl)) (hA.get (Γx.length + 0) (getApp rfl))) ?_
                rintro cs369 w hs
                have hl370 := hs.agglen (n := 3) 0 rfl rfl rfl
                have hs := hs.add (it := vl t_network_Network x368 (.agg cs369.toArray)) fun ok hA => hA.get 0 rfl
                exact WL.nil ⟨rfl, _, rfl, ⟨cs369, rfl⟩, hs.cutG 1 1⟩
              · intro ρ w hs hu375 hp
                obtain ⟨⟨⟨⟨⟨⟨_, hp0_⟩, hp1_⟩, hp2_⟩, hp3_⟩, hp4_⟩, hp5_⟩ := hp
                have hs : St ok (bz w0) w [vl t_network_Network x368 (ρ 146), vl t_network_Network x365 (ρ 143), vl (tSlice t_network_Side) [(⟨x326, x328⟩ : network_Side), (⟨x331, 1⟩ : network_Side)] (.slice a348 ([(⟨x326, x328⟩ : network_Side), (⟨x331, 1⟩ : network_Side)]).length c349), vl (tInt .i64) x9.Kind (.int .i64 x9.Kind), vl (tInt .i64) x1.Next (.int .i64 x1.Next), vl (tInt .i64) x9.N (.int .i64 x9.N), vl t_network_Network x1 (.agg cs3.toArray), vl t_network_Network x5 (.agg cs7.toArray), vl t_elasticstorelaw34_Act x9 (.agg cs11.toArray)] [blk g18 27 [.int .i64 0, .slice none 0 0, .slice none 0 0], blk g17 27 [.int .i64 0, .slice none 0 0, .slice none 0 0], blk g16 33 cs11, blk g15 27 cs7, blk g14 27 cs3] := hs
                obtain ⟨cs376, e378⟩ := hp5_
                have e378 : ρ 146 = .agg cs376.toArray := e378
                try rw [e378] at hs
                have e379 : ρ 145 = .slice a348 ([(⟨x326, x328⟩ : network_Side), (⟨x331, 1⟩ : network_Side)]).length c349 := hp4_
                have e380 : ρ 144 = .agg cs7.toArray := hp3_
                obtain ⟨cs381, e383⟩ := hp2_
                have e383 : ρ 143 = .agg cs381.toArray := e383
                try rw [e383] at hs
                have e384 : ρ 142 = .slice a348 ([(⟨x326, x328⟩ : network_Side), (⟨x331, 1⟩ : network_Side)]).length c349 := hp1_
                have e385 : ρ 141 = .agg cs3.toArray := hp0_
                have hl382 := hs.agglen (n := 3) 1 rfl rfl rfl
                have hl377 := hs.agglen (n := 3) 0 rfl rfl rfl
                refine WA.step [6] (by kernel_rfl) (by simp) ⟨?_, trivial⟩
                refine WL.storeAll (vs := cs381) hs 1 rfl TI27 ((hu375 6 rfl).trans (hu347 6 rfl)) e383 rfl hl382 (hs.ones 1 rfl rfl) rfl (fun w hs => ?_)
                refine WL.nil ⟨rfl, _, rfl, ?_⟩
                refine WA.step [7] (by kernel_rfl) (by simp) ⟨?_, trivial⟩
                refine WL.storeAll (vs := cs376) hs 0 rfl TI27 ((hu375 7 rfl).trans (hu347 7 rfl)) e378 rfl hl377 (hs.ones 0 rfl rfl) rfl (fun w hs => ?_)
                refine WL.nil ⟨rfl, _, rfl, ?_⟩
                refine WA.step [8] (by kernel_rfl) (by simp) ⟨?_, trivial⟩
                refine WL.assign (v := .bool true) rfl ?_
                refine WL.nil ⟨rfl, _, rfl, ?_⟩
                refine WA.done (by kernel_rfl) ?_
                refine hK364 _ _ ?_
                refine W.ret ?_
                have hr := Option.some.inj hf; subst hr
                exact ⟨_, resOk_three rfl (res_all hs 1 rfl TI27 ((hu375 6 rfl).trans (hu347 6 rfl)) hl382) (res_all hs 0 rfl TI27 ((hu375 7 rfl).trans (hu347 7 rfl)) hl377) rfl, (cs381, cs376), rfl, (hs.mask []).pick [1, 0]⟩
          · refine W.cond_false (bool_tr rfl hc322) ?_
            refine W.seqK fun K386 hK386 => ?_
            refine W.region ?_
            refine WL.bin (v := .bool (x28 == 5)) rfl rfl (ib_eql _ _ _) ?_
            refine WL.assign (v := .bool (x28 == 5)) rfl ?_
            refine WL.nil ?_
            refine hK386 _ _ ?_
            rcases iteE hf with ⟨hc387, hf⟩ | ⟨hc387, hf⟩
            · refine W.cond_true (bool_tr rfl hc387) ?_
              refine W.seqK fun K388 hK388 => ?_
              obtain ⟨x389, hxx389, hf⟩ := bindE hf
              obtain ⟨x392, hxx392, hf⟩ := bindE hf
              refine W.any (by kernel_rfl) 4 3 [true, true, true, true, false, false, false] rfl rfl (poAt [pv (.agg cs3.toArray), pq (fun y : List Value => .agg y.toArray) (fun v => [vl t_network_Network x389 v]) (fun v => []), pv (.agg cs7.toArray), pq (fun y : List Value => .agg y.toArray) (fun v => [vl t_network_Network x392 v]) (fun v => [])]) (Λ := [blk g18 27 [.int .i64 0, .slice none 0 0, .slice none 0 0], blk g17 27 [.int .i64 0, .slice none 0 0, .slice none 0 0], blk g16 33 cs11, blk g15 27 cs7, blk g14 27 cs3]) hs (by kernel_rfl) (by kernel_rfl) (by kernel_rfl) ⟨⟨⟨⟨trivial, ?_⟩, ?_⟩, ?_⟩, ?_⟩ ?_
              · intro ρ w Γx Λx hs hu hp
                refine WL.loadAll hs (Λx.length + 4) (getApp rfl) TI27 (hu 3 rfl) hl4 ?_
                exact WL.nil ⟨rfl, _, rfl, rfl, hs.cutG 0 0⟩
              · intro ρ w Γx Λx hs hu hp
                have e395 : ρ 149 = .agg cs3.toArray := (hp 0 rfl).1
                refine WL.call (vs := [.agg cs3.toArray]) hs FN15 ⟨e395, trivial⟩ (fun ok hA => network_Heal.callc (x1 := x1) hxx389 (hA.get (Γx.length + 3) (getApp rfl))) ?_
                rintro cs390 w hs
                have hl391 := hs.agglen (n := 3) 0 rfl rfl rfl
                have hs := hs.add (it := vl t_network_Network x389 (.agg cs390.toArray)) fun ok hA => hA.get 0 rfl
                exact WL.nil ⟨rfl, _, rfl, ⟨cs390, rfl⟩, hs.cutG 1 1⟩
              · intro ρ w Γx Λx hs hu hp
                refine WL.loadAll hs (Λx.length + 3) (getApp rfl) TI27 (hu 4 rfl) hl8 ?_
                exact WL.nil ⟨rfl, _, rfl, rfl, hs.cutG 0 0⟩
              · intro ρ w Γx Λx hs hu hp
                have e396 : ρ 151 = .agg cs7.toArray := (hp 2 rfl).1
                have hs := hs.add (it := vl (tSlice t_network_Side) [] (.slice none 0 0)) fun ok hA => V_nil
                refine WL.call (vs := [.agg cs7.toArray, .slice none 0 0]) hs FN36 ⟨e396, ⟨rfl, trivial⟩⟩ (fun ok hA => esref36_Partition.callc (a6 := none) (c7 := 0) (x1 := x5) (x5 := []) hxx392 (hA.get (Γx.length + 4 + 1) (getApp1 rfl)) (hA.get 0 rfl)) ?_
                rintro cs393 w hs
                have hl394 := hs.agglen (n := 3) 0 rfl rfl rfl
                have hs := hs.add (it := vl t_network_Network x392 (.agg cs393.toArray)) fun ok hA => hA.get 0 rfl
                exact WL.nil ⟨rfl, _, rfl, ⟨cs393, rfl⟩, hs.cutG 1 2⟩
              · intro ρ w hs hu397 hp
                obtain ⟨⟨⟨⟨_, hp0_⟩, hp1_⟩, hp2_⟩, hp3_⟩ := hp
                have hs : St ok (bz w0) w [vl t_network_Network x392 (ρ 152), vl t_network_Network x389 (ρ 150), vl (tInt .i64) x9.Kind (.int .i64 x9.Kind), vl (tInt .i64) x1.Next (.int .i64 x1.Next), vl (tInt .i64) x9.N (.int .i64 x9.N), vl t_network_Network x1 (.agg cs3.toArray), vl t_network_Network x5 (.agg cs7.toArray), vl t_elasticstorelaw34_Act x9 (.agg cs11.toArray)] [blk g18 27 [.int .i64 0, .slice none 0 0, .slice none 0 0], blk g17 27 [.int .i64 0, .slice none 0 0, .slice none 0 0], blk g16 33 cs11, blk g15 27 cs7, blk g14 27 cs3] := hs
                obtain ⟨cs398, e400⟩ := hp3_
                have e400 : ρ 152 = .agg cs398.toArray := e400
                try rw [e400] at hs
                have e401 : ρ 151 = .agg cs7.toArray := hp2_
                obtain ⟨cs402, e404⟩ := hp1_
                have e404 : ρ 150 = .agg cs402.toArray := e404
                try rw [e404] at hs
                have e405 : ρ 149 = .agg cs3.toArray := hp0_
                have hl403 := hs.agglen (n := 3) 1 rfl rfl rfl
                have hl399 := hs.agglen (n := 3) 0 rfl rfl rfl
                refine WA.step [4] (by kernel_rfl) (by simp) ⟨?_, trivial⟩
                refine WL.storeAll (vs := cs402) hs 1 rfl TI27 (hu397 6 rfl) e404 rfl hl403 (hs.ones 1 rfl rfl) rfl (fun w hs => ?_)
                refine WL.nil ⟨rfl, _, rfl, ?_⟩
                refine WA.step [5] (by kernel_rfl) (by simp) ⟨?_, trivial⟩
                refine WL.storeAll (vs := cs398) hs 0 rfl TI27 (hu397 7 rfl) e400 rfl hl399 (hs.ones 0 rfl rfl) rfl (fun w hs => ?_)
                refine WL.nil ⟨rfl, _, rfl, ?_⟩
                refine WA.step [6] (by kernel_rfl) (by simp) ⟨?_, trivial⟩
                refine WL.assign (v := .bool true) rfl ?_
                refine WL.nil ⟨rfl, _, rfl, ?_⟩
                refine WA.done (by kernel_rfl) ?_
                refine hK388 _ _ ?_
                refine W.ret ?_
                have hr := Option.some.inj hf; subst hr
                exact ⟨_, resOk_three rfl (res_all hs 1 rfl TI27 (hu397 6 rfl) hl403) (res_all hs 0 rfl TI27 (hu397 7 rfl) hl399) rfl, (cs402, cs398), rfl, (hs.mask []).pick [1, 0]⟩
            · refine W.cond_false (bool_tr rfl hc387) ?_
              refine W.seqK fun K406 hK406 => ?_
              refine W.region ?_
              refine WL.bin (v := .bool (x28 == 6)) rfl rfl (ib_eql _ _ _) ?_
              refine WL.assign (v := .bool (x28 == 6)) rfl ?_
              refine WL.nil ?_
              refine hK406 _ _ ?_
              rcases iteE hf with ⟨hc407, hf⟩ | ⟨hc407, hf⟩
              · refine W.cond_true (bool_tr rfl hc407) ?_
                refine W.seqK fun K408 hK408 => ?_
                obtain ⟨x410, hxx410, hf⟩ := bindE hf
                obtain ⟨x411, ex411, hf⟩ := letE hf
                obtain ⟨x412, hxx412, hf⟩ := bindE hf
                obtain ⟨x416, hxx416, hf⟩ := bindE hf
                obtain ⟨x417, ex417, hf⟩ := letE hf
                obtain ⟨x418, hxx418, hf⟩ := bindE hf
                refine W.any (by kernel_rfl) 12 3 [true, true, true, true, true, true, true, true, true, true, true, true, false, false, false] rfl rfl (poAt [pv (.agg cs3.toArray), pv (.pointer (some ⟨g16, 2, none⟩)), pv (.int .i64 x9.M), pv (.int .i64 x410), pv (.int .i64 x411), pq (fun y : List Value => .agg y.toArray) (fun v => [vl t_network_Network x412 v]) (fun v => []), pv (.agg cs7.toArray), pv (.pointer (some ⟨g16, 2, none⟩)), pv (.int .i64 x9.M), pv (.int .i64 x416), pv (.int .i64 x417), pq (fun y : List Value => .agg y.toArray) (fun v => [vl t_network_Network x418 v]) (fun v => [])]) (Λ := [blk g18 27 [.int .i64 0, .slice none 0 0, .slice none 0 0], blk g17 27 [.int .i64 0, .slice none 0 0, .slice none 0 0], blk g16 33 cs11, blk g15 27 cs7, blk g14 27 cs3]) hs (by kernel_rfl) (by kernel_rfl) (by kernel_rfl) ⟨⟨⟨⟨⟨⟨⟨⟨⟨⟨⟨⟨trivial, ?_⟩, ?_⟩, ?_⟩, ?_⟩, ?_⟩, ?_⟩, ?_⟩, ?_⟩, ?_⟩, ?_⟩, ?_⟩, ?_⟩ ?_
                · intro ρ w Γx Λx hs hu hp
                  refine WL.loadAll hs (Λx.length + 4) (getApp rfl) TI27 (hu 3 rfl) hl4 ?_
                  exact WL.nil ⟨rfl, _, rfl, rfl, hs.cutG 0 0⟩
                · intro ρ w Γx Λx hs hu hp
                  refine WL.fieldAddr (m := 2) (hu 5 rfl) FA33_2 rfl ?_
                  exact WL.nil ⟨rfl, _, rfl, rfl, hs.cutG 0 0⟩
                · intro ρ w Γx Λx hs hu hp
                  have e421 : ρ 156 = .pointer (some ⟨g16, 2, none⟩) := (hp 1 rfl).1
                  refine WL.loadF (z := x9.M) F_elasticstorelaw34_Act_M hs (Λx.length + 2) (getApp rfl) (Γx.length + 5) (getApp rfl) rfl TI3 (.inr rfl) e421 rfl (fun v409 hs => ?_)
                  obtain rfl := hs.int 0 rfl
                  exact WL.nil ⟨rfl, _, rfl, rfl, hs.cutG 0 1⟩
                · intro ρ w Γx Λx hs hu hp
                  have e422 : ρ 157 = .int .i64 x9.M := (hp 2 rfl).1
                  refine WL.call (vs := [.int .i64 x9.M, .int .i64 5]) hs FN17 ⟨e422, ⟨rfl, trivial⟩⟩ (fun ok hA => eslaw00_Index.calls (x1 := x9.M) (x2 := 5) hxx410) ?_
                  rintro _ w hs
                  exact WL.nil ⟨rfl, _, rfl, rfl, hs.cutG 0 0⟩
                · intro ρ w Γx Λx hs hu hp
                  have e423 : ρ 158 = .int .i64 x410 := (hp 3 rfl).1
                  refine WL.bin (v := .int .i64 x411) rfl e423 (ib_as ex411 (ib_add _ _ _)) ?_
                  exact WL.nil ⟨rfl, _, rfl, rfl, hs.cutG 0 0⟩
                · intro ρ w Γx Λx hs hu hp
                  have e424 : ρ 155 = .agg cs3.toArray := (hp 0 rfl).1
                  have e425 : ρ 159 = .int .i64 x411 := (hp 4 rfl).1
                  refine WL.call (vs := [.agg cs3.toArray, .int .i64 x411]) hs FN37 ⟨e424, ⟨e425, trivial⟩⟩ (fun ok hA => network_Purge.callc (x1 := x1) (x5 := x411) hxx412 (hA.get (Γx.length + 3) (getApp rfl))) ?_
                  rintro cs413 w hs
                  have hl414 := hs.agglen (n := 3) 0 rfl rfl rfl
                  have hs := hs.add (it := vl t_network_Network x412 (.agg cs413.toArray)) fun ok hA => hA.get 0 rfl
                  exact WL.nil ⟨rfl, _, rfl, ⟨cs413, rfl⟩, hs.cutG 1 1⟩
                · intro ρ w Γx Λx hs hu hp
                  refine WL.loadAll hs (Λx.length + 3) (getApp rfl) TI27 (hu 4 rfl) hl8 ?_
                  exact WL.nil ⟨rfl, _, rfl, rfl, hs.cutG 0 0⟩
                · intro ρ w Γx Λx hs hu hp
                  refine WL.fieldAddr (m := 2) (hu 5 rfl) FA33_2 rfl ?_
                  exact WL.nil ⟨rfl, _, rfl, rfl, hs.cutG 0 0⟩
                · intro ρ w Γx Λx hs hu hp
                  have e426 : ρ 162 = .pointer (some ⟨g16, 2, none⟩) := (hp 7 rfl).1
                  refine WL.loadF (z := x9.M) F_elasticstorelaw34_Act_M hs (Λx.length + 2) (getApp rfl) (Γx.length + 5) (getApp rfl) rfl TI3 (.inr rfl) e426 rfl (fun v415 hs => ?_)
                  obtain rfl := hs.int 0 rfl
                  exact WL.nil ⟨rfl, _, rfl, rfl, hs.cutG 0 1⟩
                · intro ρ w Γx Λx hs hu hp
                  have e427 : ρ 163 = .int .i64 x9.M := (hp 8 rfl).1
                  refine WL.call (vs := [.int .i64 x9.M, .int .i64 5]) hs FN17 ⟨e427, ⟨rfl, trivial⟩⟩ (fun ok hA => eslaw00_Index.calls (x1 := x9.M) (x2 := 5) hxx416) ?_
                  rintro _ w hs
                  exact WL.nil ⟨rfl, _, rfl, rfl, hs.cutG 0 0⟩
                · intro ρ w Γx Λx hs hu hp
                  have e428 : ρ 164 = .int .i64 x416 := (hp 9 rfl).1
                  refine WL.bin (v := .int .i64 x417) rfl e428 (ib_as ex417 (ib_add _ _ _)) ?_
                  exact WL.nil ⟨rfl, _, rfl, rfl, hs.cutG 0 0⟩
                · intro ρ w Γx Λx hs hu hp
                  have e429 : ρ 161 = .agg cs7.toArray := (hp 6 rfl).1
                  have e430 : ρ 165 = .int .i64 x417 := (hp 10 rfl).1
                  refine WL.call (vs := [.agg cs7.toArray, .int .i64 x417]) hs FN38 ⟨e429, ⟨e430, trivial⟩⟩ (fun ok hA => esref36_Purge.callc (x1 := x5) (x5 := x417) hxx418 (hA.get (Γx.length + 4) (getApp rfl))) ?_
                  rintro cs419 w hs
                  have hl420 := hs.agglen (n := 3) 0 rfl rfl rfl
                  have hs := hs.add (it := vl t_network_Network x418 (.agg cs419.toArray)) fun ok hA => hA.get 0 rfl
                  exact WL.nil ⟨rfl, _, rfl, ⟨cs419, rfl⟩, hs.cutG 1 1⟩
                · intro ρ w hs hu431 hp
                  obtain ⟨⟨⟨⟨⟨⟨⟨⟨⟨⟨⟨⟨_, hp0_⟩, hp1_⟩, hp2_⟩, hp3_⟩, hp4_⟩, hp5_⟩, hp6_⟩, hp7_⟩, hp8_⟩, hp9_⟩, hp10_⟩, hp11_⟩ := hp
                  have hs : St ok (bz w0) w [vl t_network_Network x418 (ρ 166), vl t_network_Network x412 (ρ 160), vl (tInt .i64) x9.Kind (.int .i64 x9.Kind), vl (tInt .i64) x1.Next (.int .i64 x1.Next), vl (tInt .i64) x9.N (.int .i64 x9.N), vl t_network_Network x1 (.agg cs3.toArray), vl t_network_Network x5 (.agg cs7.toArray), vl t_elasticstorelaw34_Act x9 (.agg cs11.toArray)] [blk g18 27 [.int .i64 0, .slice none 0 0, .slice none 0 0], blk g17 27 [.int .i64 0, .slice none 0 0, .slice none 0 0], blk g16 33 cs11, blk g15 27 cs7, blk g14 27 cs3] := hs
                  obtain ⟨cs432, e434⟩ := hp11_
                  have e434 : ρ 166 = .agg cs432.toArray := e434
                  try rw [e434] at hs
                  have e435 : ρ 165 = .int .i64 x417 := hp10_
                  have e436 : ρ 164 = .int .i64 x416 := hp9_
                  have e437 : ρ 163 = .int .i64 x9.M := hp8_
                  have e438 : ρ 162 = .pointer (some ⟨g16, 2, none⟩) := hp7_
                  have e439 : ρ 161 = .agg cs7.toArray := hp6_
                  obtain ⟨cs440, e442⟩ := hp5_
                  have e442 : ρ 160 = .agg cs440.toArray := e442
                  try rw [e442] at hs
                  have e443 : ρ 159 = .int .i64 x411 := hp4_
                  have e444 : ρ 158 = .int .i64 x410 := hp3_
                  have e445 : ρ 157 = .int .i64 x9.M := hp2_
                  have e446 : ρ 156 = .pointer (some ⟨g16, 2, none⟩) := hp1_
                  have e447 : ρ 155 = .agg cs3.toArray := hp0_
                  have hl441 := hs.agglen (n := 3) 1 rfl rfl rfl
                  have hl433 := hs.agglen (n := 3) 0 rfl rfl rfl
                  refine WA.step [12] (by kernel_rfl) (by simp) ⟨?_, trivial⟩
                  refine WL.storeAll (vs := cs440) hs 1 rfl TI27 (hu431 6 rfl) e442 rfl hl441 (hs.ones 1 rfl rfl) rfl (fun w hs => ?_)
                  refine WL.nil ⟨rfl, _, rfl, ?_⟩
                  refine WA.step [13] (by kernel_rfl) (by simp) ⟨?_, trivial⟩
                  refine WL.storeAll (vs := cs432) hs 0 rfl TI27 (hu431 7 rfl) e434 rfl hl433 (hs.ones 0 rfl rfl) rfl (fun w hs => ?_)
                  refine WL.nil ⟨rfl, _, rfl, ?_⟩
                  refine WA.step [14] (by kernel_rfl) (by simp) ⟨?_, trivial⟩
                  refine WL.assign (v := .bool true) rfl ?_
                  refine WL.nil ⟨rfl, _, rfl, ?_⟩
                  refine WA.done (by kernel_rfl) ?_
                  refine hK408 _ _ ?_
                  refine W.ret ?_
                  have hr := Option.some.inj hf; subst hr
                  exact ⟨_, resOk_three rfl (res_all hs 1 rfl TI27 (hu431 6 rfl) hl441) (res_all hs 0 rfl TI27 (hu431 7 rfl) hl433) rfl, (cs440, cs432), rfl, (hs.mask []).pick [1, 0]⟩
              · refine W.cond_false (bool_tr rfl hc407) ?_
                refine W.skip ?_
                refine hK25 _ _ ?_
                refine W.seqK fun K448 hK448 => ?_
                obtain ⟨x449, hxx449, hf⟩ := bindE hf
                obtain ⟨x452, hxx452, hf⟩ := bindE hf
                obtain ⟨x455, hxx455, hf⟩ := bindE hf
                obtain ⟨x458, hxx458, hf⟩ := bindE hf
                refine W.any (by kernel_rfl) 8 3 [true, true, true, true, true, true, true, true, false, false, false] rfl rfl (poAt [pv (.agg cs3.toArray), pv (.agg cs11.toArray), pq (fun y : (Option Addr × Nat) => .slice y.1 x449.length y.2) (fun v => [vl (tSlice t_api_Message) x449 v]) (fun v => []), pq (fun y : List Value => .agg y.toArray) (fun v => [vl t_network_Network x452 v]) (fun v => []), pv (.agg cs7.toArray), pv (.agg cs11.toArray), pq (fun y : (Option Addr × Nat) => .slice y.1 x455.length y.2) (fun v => [vl (tSlice t_api_Message) x455 v]) (fun v => []), pq (fun y : List Value => .agg y.toArray) (fun v => [vl t_network_Network x458 v]) (fun v => [])]) (Λ := [blk g18 27 [.int .i64 0, .slice none 0 0, .slice none 0 0], blk g17 27 [.int .i64 0, .slice none 0 0, .slice none 0 0], blk g16 33 cs11, blk g15 27 cs7, blk g14 27 cs3]) hs (by kernel_rfl) (by kernel_rfl) (by kernel_rfl) ⟨⟨⟨⟨⟨⟨⟨⟨trivial, ?_⟩, ?_⟩, ?_⟩, ?_⟩, ?_⟩, ?_⟩, ?_⟩, ?_⟩ ?_
                · intro ρ w Γx Λx hs hu hp
                  refine WL.loadAll hs (Λx.length + 4) (getApp rfl) TI27 (hu 3 rfl) hl4 ?_
                  exact WL.nil ⟨rfl, _, rfl, rfl, hs.cutG 0 0⟩
                · intro ρ w Γx Λx hs hu hp
                  refine WL.loadAll hs (Λx.length + 2) (getApp rfl) TI33 (hu 5 rfl) hl12 ?_
                  exact WL.nil ⟨rfl, _, rfl, rfl, hs.cutG 0 0⟩
                · intro ρ w Γx Λx hs hu hp
                  have e461 : ρ 168 = .agg cs11.toArray := (hp 1 rfl).1
                  refine WL.call (vs := [.agg cs11.toArray]) hs FN11 ⟨e461, trivial⟩ (fun ok hA => eslaw34_messages.callc (x1 := x9) hxx449 (hA.get (Γx.length + 5) (getApp rfl))) ?_
                  rintro ⟨a450, c451⟩ w hs
                  have hs := hs.add (it := vl (tSlice t_api_Message) x449 (.slice a450 x449.length c451)) fun ok hA => hA.get 0 rfl
                  exact WL.nil ⟨rfl, _, rfl, ⟨(a450, c451), rfl⟩, hs.cutG 1 1⟩
                · intro ρ w Γx Λx hs hu hp
                  have e462 : ρ 167 = .agg cs3.toArray := (hp 0 rfl).1
                  obtain ⟨⟨⟨a463, c464⟩, e465r⟩, hm466⟩ := hp 2 rfl
                  have e465 : ρ 169 = .slice a463 x449.length c464 := e465r
                  rw [e465r] at hm466
                  have hs := hs.memo1 (it := vl (tSlice t_api_Message) x449 (.slice a463 x449.length c464)) (List.mem_append.2 (.inl (hm466 _ (List.mem_of_getElem? (i := 0) rfl))))
                  refine WL.call (vs := [.agg cs3.toArray, .slice a463 x449.length c464]) hs FN10 ⟨e462, ⟨e465, trivial⟩⟩ (fun ok hA => network_Send.callc (x1 := x1) (x5 := x449) hxx452 (hA.get (Γx.length + 3 + 1) (getApp1 rfl)) (hA.get 0 rfl)) ?_
                  rintro cs453 w hs
                  have hl454 := hs.agglen (n := 3) 0 rfl rfl rfl
                  have hs := hs.add (it := vl t_network_Network x452 (.agg cs453.toArray)) fun ok hA => hA.get 0 rfl
                  exact WL.nil ⟨rfl, _, rfl, ⟨cs453, rfl⟩, hs.cutG 1 2⟩
                · intro ρ w Γx Λx hs hu hp
                  refine WL.loadAll hs (Λx.length + 3) (getApp rfl) TI27 (hu 4 rfl) hl8 ?_
                  exact WL.nil ⟨rfl, _, rfl, rfl, hs.cutG 0 0⟩
                · intro ρ w Γx Λx hs hu hp
                  refine WL.loadAll hs (Λx.length + 2) (getApp rfl) TI33 (hu 5 rfl) hl12 ?_
                  exact WL.nil ⟨rfl, _, rfl, rfl, hs.cutG 0 0⟩
                · intro ρ w Γx Λx hs hu hp
                  have e467 : ρ 172 = .agg cs11.toArray := (hp 5 rfl).1
                  refine WL.call (vs := [.agg cs11.toArray]) hs FN11 ⟨e467, trivial⟩ (fun ok hA => eslaw34_messages.callc (x1 := x9) hxx455 (hA.get (Γx.length + 5) (getApp rfl))) ?_
                  rintro ⟨a456, c457⟩ w hs
                  have hs := hs.add (it := vl (tSlice t_api_Message) x455 (.slice a456 x455.length c457)) fun ok hA => hA.get 0 rfl
                  exact WL.nil ⟨rfl, _, rfl, ⟨(a456, c457), rfl⟩, hs.cutG 1 1⟩
                · intro ρ w Γx Λx hs hu hp
                  have e468 : ρ 171 = .agg cs7.toArray := (hp 4 rfl).1
                  obtain ⟨⟨⟨a469, c470⟩, e471r⟩, hm472⟩ := hp 6 rfl
                  have e471 : ρ 173 = .slice a469 x455.length c470 := e471r
                  rw [e471r] at hm472
                  have hs := hs.memo1 (it := vl (tSlice t_api_Message) x455 (.slice a469 x455.length c470)) (List.mem_append.2 (.inl (hm472 _ (List.mem_of_getElem? (i := 0) rfl))))
                  refine WL.call (vs := [.agg cs7.toArray, .slice a469 x455.length c470]) hs FN39 ⟨e468, ⟨e471, trivial⟩⟩ (fun ok hA => esref36_Send.callc (x1 := x5) (x5 := x455) hxx458 (hA.get (Γx.length + 4 + 1) (getApp1 rfl)) (hA.get 0 rfl)) ?_
                  rintro cs459 w hs
                  have hl460 := hs.agglen (n := 3) 0 rfl rfl rfl
                  have hs := hs.add (it := vl t_network_Network x458 (.agg cs459.toArray)) fun ok hA => hA.get 0 rfl
                  exact WL.nil ⟨rfl, _, rfl, ⟨cs459, rfl⟩, hs.cutG 1 2⟩
                · intro ρ w hs hu473 hp
                  obtain ⟨⟨⟨⟨⟨⟨⟨⟨_, hp0_⟩, hp1_⟩, hp2_⟩, hp3_⟩, hp4_⟩, hp5_⟩, hp6_⟩, hp7_⟩ := hp
                  have hs : St ok (bz w0) w [vl t_network_Network x458 (ρ 174), vl (tSlice t_api_Message) x455 (ρ 173), vl t_network_Network x452 (ρ 170), vl (tSlice t_api_Message) x449 (ρ 169), vl (tInt .i64) x9.Kind (.int .i64 x9.Kind), vl (tInt .i64) x1.Next (.int .i64 x1.Next), vl (tInt .i64) x9.N (.int .i64 x9.N), vl t_network_Network x1 (.agg cs3.toArray), vl t_network_Network x5 (.agg cs7.toArray), vl t_elasticstorelaw34_Act x9 (.agg cs11.toArray)] [blk g18 27 [.int .i64 0, .slice none 0 0, .slice none 0 0], blk g17 27 [.int .i64 0, .slice none 0 0, .slice none 0 0], blk g16 33 cs11, blk g15 27 cs7, blk g14 27 cs3] := hs
                  obtain ⟨cs474, e476⟩ := hp7_
                  have e476 : ρ 174 = .agg cs474.toArray := e476
                  try rw [e476] at hs
                  obtain ⟨⟨a477, c478⟩, e479⟩ := hp6_
                  have e479 : ρ 173 = .slice a477 x455.length c478 := e479
                  try rw [e479] at hs
                  have e480 : ρ 172 = .agg cs11.toArray := hp5_
                  have e481 : ρ 171 = .agg cs7.toArray := hp4_
                  obtain ⟨cs482, e484⟩ := hp3_
                  have e484 : ρ 170 = .agg cs482.toArray := e484
                  try rw [e484] at hs
                  obtain ⟨⟨a485, c486⟩, e487⟩ := hp2_
                  have e487 : ρ 169 = .slice a485 x449.length c486 := e487
                  try rw [e487] at hs
                  have e488 : ρ 168 = .agg cs11.toArray := hp1_
                  have e489 : ρ 167 = .agg cs3.toArray := hp0_
                  have hl483 := hs.agglen (n := 3) 2 rfl rfl rfl
                  have hl475 := hs.agglen (n := 3) 0 rfl rfl rfl
                  refine WA.step [8] (by kernel_rfl) (by simp) ⟨?_, trivial⟩
                  refine WL.storeAll (vs := cs482) hs 1 rfl TI27 (hu473 6 rfl) e484 rfl hl483 (hs.ones 2 rfl rfl) rfl (fun w hs => ?_)
                  refine WL.nil ⟨rfl, _, rfl, ?_⟩
                  refine WA.step [9] (by kernel_rfl) (by simp) ⟨?_, trivial⟩
                  refine WL.storeAll (vs := cs474) hs 0 rfl TI27 (hu473 7 rfl) e476 rfl hl475 (hs.ones 0 rfl rfl) rfl (fun w hs => ?_)
                  refine WL.nil ⟨rfl, _, rfl, ?_⟩
                  refine WA.step [10] (by kernel_rfl) (by simp) ⟨?_, trivial⟩
                  refine WL.assign (v := .bool true) rfl ?_
                  refine WL.nil ⟨rfl, _, rfl, ?_⟩
                  refine WA.done (by kernel_rfl) ?_
                  refine hK448 _ _ ?_
                  refine W.ret ?_
                  have hr := Option.some.inj hf; subst hr
                  exact ⟨_, resOk_three rfl (res_all hs 1 rfl TI27 (hu473 6 rfl) hl483) (res_all hs 0 rfl TI27 (hu473 7 rfl) hl475) rfl, (cs482, cs474), rfl, (hs.mask []).pick [2, 0]⟩
end Go.Proofs.Ytahobbichanccaa
