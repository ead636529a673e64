import Derived.Test.YtahobbichanccaaFh
import Derived.Test.YtahobbichanccaaFp0
import Derived.Test.YtahobbichanccaaFp1
set_option linter.unusedVariables false
set_option linter.unusedSimpArgs false
namespace Go.Proofs.Ytahobbichanccaa
open Go Go.RowKit Go.Proofs.YtahobbichanccaaL
set_option maxRecDepth 100000
set_option maxHeartbeats 4000000
/-! elasticstore/network.Deliver: function 26 -/
theorem network_Deliver.calls {ok : Nat → Prop} {w0 : World} {x1 : network_Network} {x5 : Int} {v2 : Value} {r : network_Network × api_Message × Bool} (hf : network_Deliver x1 x5 = some r) (i0 : (vl t_network_Network x1 v2).holds ok w0) :
    Calls Try.prog 26 #[v2, .int .i64 x5] w0 fun e w' => ∃ v, e = .returned v ∧ ∃ y : (List Value) × (List Value), v = .tuple #[.agg y.1.toArray, .agg y.2.toArray, .bool r.2.2] ∧ St ok (bz w0) w' [vl t_network_Network r.1 (.agg y.1.toArray), vl t_api_Message r.2.1 (.agg y.2.toArray)] [] := by
  unfold network_Deliver at hf
  refine calls_of_W (fn := Try.f26) (N := 47) Try.func26 rfl Try.ntmps26 rfl ?_
  have hs : St ok (bz w0) w0 [vl t_network_Network x1 v2] [] := St.init (All.cons i0 All.nil)
  clear i0
  obtain ⟨cs3, hl4, rfl⟩ := hs.aggv (n := 3) 0 rfl rfl rfl
  refine W.seqK fun K6 hK6 => ?_
  refine W.region ?_
  refine WL.box (vs := cs3) hs rfl rfl (fun g7 w hs => ?_)
  refine WL.alloc hs ZV27 (fun g8 w hs => ?_)
  refine WL.alloc hs ZV49 (fun g9 w hs => ?_)
  refine WL.assign (v := .bool false) rfl ?_
  refine WL.nil ?_
  refine hK6 _ _ ?_
  refine W.seqK fun K10 hK10 => ?_
  refine W.region ?_
  refine WL.loadAll hs 2 rfl TI27 rfl hl4 ?_
  refine WL.move (v := .int .i64 x5) rfl ?_
  obtain ⟨⟨x11, x12⟩, hxx11, hf⟩ := bindE hf
  refine WL.call (vs := [.agg cs3.toArray, .int .i64 x5]) hs FN40 ⟨rfl, ⟨rfl, trivial⟩⟩ (fun ok hA => network_position.calls (x1 := x1) (x5 := x5) hxx11 (hA.get 0 rfl)) ?_
  rintro _ w hs
  refine WL.move (v := .tuple #[.int .i64 x11, .bool x12]) rfl ?_
  refine WL.extract (v := .int .i64 x11) rfl rfl ?_
  refine WL.extract (v := .bool x12) rfl rfl ?_
  refine WL.assign (v := .int .i64 x11) rfl ?_
  refine WL.assign (v := .bool x12) rfl ?_
  refine WL.nil ?_
  refine hK10 _ _ ?_
  refine W.seqK fun K13 hK13 => ?_
  refine W.seqK fun K14 hK14 => ?_
  have Jk17 : ∀ (x16 : Bool) (ρ : Env) (w : World), ρ 2 = .pointer (some ⟨g7, 0, none⟩) → ρ 4 = .pointer (some ⟨g8, 0, none⟩) → ρ 5 = .pointer (some ⟨g9, 0, none⟩) → ρ 7 = .int .i64 x11 → ρ 34 = .bool x16 → St ok (bz w0) w [vl t_network_Network x1 (.agg cs3.toArray)] [blk g9 49 [.int .i64 0, .int .i64 0, .int .i64 0, .int .i64 0, .int .i64 0, .int .i64 0, .int .i64 0, .slice none 0 0, .slice none 0 0, .slice none 0 0, .slice none 0 0, .bool false, .slice none 0 0, .slice none 0 0, .slice none 0 0, .slice none 0 0, .slice none 0 0, .bool false], blk g8 27 [.int .i64 0, .slice none 0 0, .slice none 0 0], blk g7 27 cs3] → network_Deliver.j1 x1 x11 x16 = some r → K14 ρ w := by
    intro x16 ρ w h15_2 h15_4 h15_5 h15_7 h15_34 hs hf
    refine hK14 _ _ ?_
    unfold network_Deliver.j1 at hf
    rcases iteE hf with ⟨hc18, hf⟩ | ⟨hc18, hf⟩
    · refine W.cond_true (bool_tr h15_34 hc18) ?_
      refine W.seqK fun K19 hK19 => ?_
      refine W.region ?_
      refine WL.loadAll hs 2 rfl TI27 h15_2 hl4 ?_
      obtain ⟨x20, hxx20, hf⟩ := bindE hf
      refine WL.call (vs := [.agg cs3.toArray]) hs FN27 ⟨rfl, trivial⟩ (fun ok hA => network_clone.calls (x1 := x1) hxx20 (hA.get 0 rfl)) ?_
      rintro ⟨⟨a21, n22, c23⟩, ⟨a24, n25, c26⟩⟩ w hs
      refine WL.build (vs := []) (cs := [.int .i64 0, .int .i64 0, .int .i64 0, .int .i64 0, .int .i64 0, .int .i64 0, .int .i64 0, .slice none 0 0, .slice none 0 0, .slice none 0 0, .slice none 0 0, .bool false, .slice none 0 0, .slice none 0 0, .slice none 0 0, .slice none 0 0, .slice none 0 0, .bool false]) trivial (bld PL49 rfl) ?_
      refine WL.storeAll (vs := [.int .i64 x20.Next, .slice a21 n22 c23, .slice a24 n25 c26]) hs 3 rfl TI27 h15_4 rfl rfl rfl (ones_of rfl) rfl (fun w hs => ?_)
      refine WL.storeAll (vs := [.int .i64 0, .int .i64 0, .int .i64 0, .int .i64 0, .int .i64 0, .int .i64 0, .int .i64 0, .slice none 0 0, .slice none 0 0, .slice none 0 0, .slice none 0 0, .bool false, .slice none 0 0, .slice none 0 0, .slice none 0 0, .slice none 0 0, .slice none 0 0, .bool false]) hs 2 rfl TI49 h15_5 rfl rfl rfl (ones_of rfl) rfl (fun w hs => ?_)
      refine WL.assign (v := .bool false) rfl ?_
      refine WL.nil ?_
      refine hK19 _ _ ?_
      refine W.ret ?_
      have hr := Option.some.inj hf; subst hr
      obtain rfl := hs.ownLen 0 rfl
      have hs := hs.freezeOwn 0 rfl
      obtain rfl := hs.ownLen 0 rfl
      have hs := hs.freezeOwn 0 rfl
      have hs := hs.add (it := vl t_network_Network (⟨x20.Next, x20.Packets, x20.Sides⟩ : network_Network) (.agg [.int .i64 x20.Next, .slice a21 (x20.Packets).length c23, .slice a24 (x20.Sides).length c26].toArray)) fun ok hA => V_agg (show t_network_Network.R ok _ _ _ from ⟨[.int .i64 x20.Next], [.slice a21 (x20.Packets).length c23, .slice a24 (x20.Sides).length c26], rfl, rfl, ⟨[.slice a21 (x20.Packets).length c23], [.slice a24 (x20.Sides).length c26], rfl, (R_one (hA.get 1 rfl)), (R_one (hA.get 0 rfl))⟩⟩) rfl
      have hs := hs.add (it := vl t_api_Message (⟨0, 0, 0, (⟨0, 0⟩ : api_AccessID), 0, 0, (⟨[], []⟩ : api_Certificate), (⟨[], []⟩ : api_Certificate), false, (⟨[], []⟩ : api_Certificate), [], [], [], false⟩ : api_Message) (.agg [.int .i64 0, .int .i64 0, .int .i64 0, .int .i64 0, .int .i64 0, .int .i64 0, .int .i64 0, .slice none 0 0, .slice none 0 0, .slice none 0 0, .slice none 0 0, .bool false, .slice none 0 0, .slice none 0 0, .slice none 0 0, .slice none 0 0, .slice none 0 0, .bool false].toArray)) fun ok hA => V_agg (show t_api_Message.R ok _ _ _ from ⟨[.int .i64 0], [.int .i64 0, .int .i64 0, .int .i64 0, .int .i64 0, .int .i64 0, .int .i64 0, .slice none 0 0, .slice none 0 0, .slice none 0 0, .slice none 0 0, .bool false, .slice none 0 0, .slice none 0 0, .slice none 0 0, .slice none 0 0, .slice none 0 0, .bool false], rfl, rfl, ⟨[.int .i64 0], [.int .i64 0, .int .i64 0, .int .i64 0, .int .i64 0, .int .i64 0, .slice none 0 0, .slice none 0 0, .slice none 0 0, .slice none 0 0, .bool false, .slice none 0 0, .slice none 0 0, .slice none 0 0, .slice none 0 0, .slice none 0 0, .bool false], rfl, rfl, ⟨[.int .i64 0], [.int .i64 0, .int .i64 0, .int .i64 0, .int .i64 0, .slice none 0 0, .slice none 0 0, .slice none 0 0, .slice none 0 0, .bool false, .slice none 0 0, .slice none 0 0, .slice none 0 0, .slice none 0 0, .slice none 0 0, .bool false], rfl, rfl, ⟨[.int .i64 0, .int .i64 0], [.int .i64 0, .int .i64 0, .slice none 0 0, .slice none 0 0, .slice none 0 0, .slice none 0 0, .bool false, .slice none 0 0, .slice none 0 0, .slice none 0 0, .slice none 0 0, .slice none 0 0, .bool false], rfl, ⟨[.int .i64 0], [.int .i64 0], rfl, rfl, rfl⟩, ⟨[.int .i64 0], [.int .i64 0, .slice none 0 0, .slice none 0 0, .slice none 0 0, .slice none 0 0, .bool false, .slice none 0 0, .slice none 0 0, .slice none 0 0, .slice none 0 0, .slice none 0 0, .bool false], rfl, rfl, ⟨[.int .i64 0], [.slice none 0 0, .slice none 0 0, .slice none 0 0, .slice none 0 0, .bool false, .slice none 0 0, .slice none 0 0, .slice none 0 0, .slice none 0 0, .slice none 0 0, .bool false], rfl, rfl, ⟨[.slice none 0 0, .slice none 0 0], [.slice none 0 0, .slice none 0 0, .bool false, .slice none 0 0, .slice none 0 0, .slice none 0 0, .slice none 0 0, .slice none 0 0, .bool false], rfl, ⟨[.slice none 0 0], [.slice none 0 0], rfl, R_nil, R_nil⟩, ⟨[.slice none 0 0, .slice none 0 0], [.bool false, .slice none 0 0, .slice none 0 0, .slice none 0 0, .slice none 0 0, .slice none 0 0, .bool false], rfl, ⟨[.slice none 0 0], [.slice none 0 0], rfl, R_nil, R_nil⟩, ⟨[.bool false], [.slice none 0 0, .slice none 0 0, .slice none 0 0, .slice none 0 0, .slice none 0 0, .bool false], rfl, rfl, ⟨[.slice none 0 0, .slice none 0 0], [.slice none 0 0, .slice none 0 0, .slice none 0 0, .bool false], rfl, ⟨[.slice none 0 0], [.slice none 0 0], rfl, R_nil, R_nil⟩, ⟨[.slice none 0 0], [.slice none 0 0, .slice none 0 0, .bool false], rfl, R_nil, ⟨[.slice none 0 0], [.slice none 0 0, .bool false], rfl, R_nil, ⟨[.slice none 0 0], [.bool false], rfl, R_nil, rfl⟩⟩⟩⟩⟩⟩⟩⟩⟩⟩⟩⟩⟩) rfl
      exact ⟨_, resOk_three rfl (res_all hs 1 rfl TI27 h15_4 rfl) (res_all hs 0 rfl TI49 h15_5 rfl) rfl, ([.int .i64 x20.Next, .slice a21 (x20.Packets).length c23, .slice a24 (x20.Sides).length c26], [.int .i64 0, .int .i64 0, .int .i64 0, .int .i64 0, .int .i64 0, .int .i64 0, .int .i64 0, .slice none 0 0, .slice none 0 0, .slice none 0 0, .slice none 0 0, .bool false, .slice none 0 0, .slice none 0 0, .slice none 0 0, .slice none 0 0, .slice none 0 0, .bool false]), rfl, (hs.mask []).pick [1, 0]⟩
    · refine W.cond_false (bool_tr h15_34 hc18) ?_
      refine W.skip ?_
      refine hK13 _ _ ?_
      refine W.seqK fun K27 hK27 => ?_
      obtain ⟨x28, hxx28, hf⟩ := bindE hf
      obtain ⟨x34, hxx34, hf⟩ := bindE hf
      have hs := hs.front 1 rfl
      refine W.any (by kernel_rfl) 10 2 [true, true, true, true, true, true, true, true, true, true, false, false] rfl rfl (poAt [pv (.agg cs3.toArray), pv (.int .i64 x11), pq (fun y : List Value => .agg y.toArray) (fun v => [vl t_network_Network x28 v]) (fun v => []), pv (.pointer (some ⟨g7, 1, none⟩)), pq (fun y : (Option Addr × Nat) => .slice y.1 (x1.Packets).length y.2) (fun v => [vl (tSlice t_network_Packet) x1.Packets v]) (fun v => []), pv (.int .i64 x11), pq (fun y : Addr => .pointer (some y)) (fun v => [pl t_network_Packet x34 (adOf v)]) (fun v => []), pq (fun y : Addr => .pointer (some y)) (fun v => [pl t_api_Message x34.Message (adOf v)]) (fun v => []), pq (fun y : List Value => .agg y.toArray) (fun v => [vl t_api_Message x34.Message v]) (fun v => []), pw (blk g8 27 [.int .i64 0, .slice none 0 0, .slice none 0 0]) (tbx t_network_Network x28 g8 27)]) (Λ := [blk g9 49 [.int .i64 0, .int .i64 0, .int .i64 0, .int .i64 0, .int .i64 0, .int .i64 0, .int .i64 0, .slice none 0 0, .slice none 0 0, .slice none 0 0, .slice none 0 0, .bool false, .slice none 0 0, .slice none 0 0, .slice none 0 0, .slice none 0 0, .slice none 0 0, .bool false], blk g7 27 cs3]) hs (by kernel_rfl) (by kernel_rfl) (by kernel_rfl) ⟨⟨⟨⟨⟨⟨⟨⟨⟨⟨trivial, ?_⟩, ?_⟩, ?_⟩, ?_⟩, ?_⟩, ?_⟩, ?_⟩, ?_⟩, ?_⟩, ?_⟩ ?_
      · intro ρ w Γx Λx hs hu hp
        refine WL.loadAll hs (Λx.length + 1) (getApp rfl) TI27 ((hu 2 rfl).trans h15_2) hl4 ?_
        exact WL.nil ⟨rfl, _, rfl, rfl, hs.cutG 0 0⟩
      · intro ρ w Γx Λx hs hu hp
        refine WL.move (v := .int .i64 x11) ((hu 7 rfl).trans h15_7) ?_
        exact WL.nil ⟨rfl, _, rfl, rfl, hs.cutG 0 0⟩
      · intro ρ w Γx Λx hs hu hp
        have e40 : ρ 38 = .agg cs3.toArray := (hp 0 rfl).1
        have e41 : ρ 39 = .int .i64 x11 := (hp 1 rfl).1
        refine WL.call (vs := [.agg cs3.toArray, .int .i64 x11]) hs FN47 ⟨e40, ⟨e41, trivial⟩⟩ (fun ok hA => network_remove.calls (x1 := x1) (x5 := x11) hxx28 (hA.get (Γx.length + 0) (getApp rfl))) ?_
        rintro cs29 w hs
        have hl30 := hs.agglen (n := 3) 0 rfl rfl rfl
        have hs := hs.add (it := vl t_network_Network x28 (.agg cs29.toArray)) fun ok hA => hA.get 0 rfl
        exact WL.nil ⟨rfl, _, rfl, ⟨cs29, rfl⟩, hs.cutG 1 1⟩
      · intro ρ w Γx Λx hs hu hp
        refine WL.fieldAddr (m := 1) ((hu 2 rfl).trans h15_2) FA27_1 rfl ?_
        exact WL.nil ⟨rfl, _, rfl, rfl, hs.cutG 0 0⟩
      · intro ρ w Γx Λx hs hu hp
        have e42 : ρ 41 = .pointer (some ⟨g7, 1, none⟩) := (hp 3 rfl).1
        refine WL.loadF (z := x1.Packets) F_network_Network_Packets hs (Λx.length + 1) (getApp rfl) (Γx.length + 0) (getApp rfl) rfl TI25 (.inr rfl) e42 rfl (fun v31 hs => ?_)
        obtain ⟨a32, c33, rfl⟩ := hs.slice 0 rfl
        have hs := hs.add (it := vl (tSlice t_network_Packet) x1.Packets (.slice a32 (x1.Packets).length c33)) fun ok hA => hA.get 0 rfl
        exact WL.nil ⟨rfl, _, rfl, ⟨(a32, c33), rfl⟩, hs.cutG 1 1⟩
      · intro ρ w Γx Λx hs hu hp
        refine WL.move (v := .int .i64 x11) ((hu 7 rfl).trans h15_7) ?_
        exact WL.nil ⟨rfl, _, rfl, rfl, hs.cutG 0 0⟩
      · intro ρ w Γx Λx hs hu hp
        obtain ⟨⟨⟨a43, c44⟩, e45r⟩, hm46⟩ := hp 4 rfl
        have e45 : ρ 42 = .slice a43 (x1.Packets).length c44 := e45r
        rw [e45r] at hm46
        have hs := hs.memo1 (it := vl (tSlice t_network_Packet) x1.Packets (.slice a43 (x1.Packets).length c44)) (List.mem_append.2 (.inl (hm46 _ (List.mem_of_getElem? (i := 0) rfl))))
        have e47 : ρ 43 = .int .i64 x11 := (hp 5 rfl).1
        refine WL.indexAddr hs 0 rfl UN25 TI51 e45 e47 hxx34 (fun ad35 hs => ?_)
        have hs := hs.add (it := pl t_network_Packet x34 ad35) fun ok hA => hA.get 0 rfl
        exact WL.nil ⟨rfl, _, rfl, ⟨ad35, rfl⟩, hs.cutG 1 2⟩
      · intro ρ w Γx Λx hs hu hp
        obtain ⟨⟨ad48, e49r⟩, hm50⟩ := hp 6 rfl
        have e49 : ρ 44 = .pointer (some ad48) := e49r
        rw [e49r] at hm50
        have hs := hs.memo1 (it := pl t_network_Packet x34 ad48) (List.mem_append.2 (.inl (hm50 _ (List.mem_of_getElem? (i := 0) rfl))))
        refine WL.fieldAddrP (z := x34.Message) F_network_Packet_Message hs 0 rfl e49 FA51_1 rfl (fun ad36 hs => ?_)
        have hs := hs.add (it := pl t_api_Message x34.Message ad36) fun ok hA => hA.get 0 rfl
        exact WL.nil ⟨rfl, _, rfl, ⟨ad36, rfl⟩, hs.cutG 1 2⟩
      · intro ρ w Γx Λx hs hu hp
        obtain ⟨⟨ad51, e52r⟩, hm53⟩ := hp 7 rfl
        have e52 : ρ 45 = .pointer (some ad51) := e52r
        rw [e52r] at hm53
        have hs := hs.memo1 (it := pl t_api_Message x34.Message ad51) (List.mem_append.2 (.inl (hm53 _ (List.mem_of_getElem? (i := 0) rfl))))
        refine WL.loadP hs 0 rfl TI49 (.inl rfl) e52 (fun v37 hs => ?_)
        obtain ⟨cs38, hl39, rfl⟩ := hs.aggv (n := 18) 0 rfl rfl rfl
        have hs := hs.add (it := vl t_api_Message x34.Message (.agg cs38.toArray)) fun ok hA => hA.get 0 rfl
        exact WL.nil ⟨rfl, _, rfl, ⟨cs38, rfl⟩, hs.cutG 1 2⟩
      · intro ρ w Γx Λx hs hu hp
        have hs : St ok (bz w0) w (Γx ++ [vl t_network_Network x1 (.agg cs3.toArray)]) (Λx ++ ([blk g8 27 [.int .i64 0, .slice none 0 0, .slice none 0 0]] ++ [blk g9 49 [.int .i64 0, .int .i64 0, .int .i64 0, .int .i64 0, .int .i64 0, .int .i64 0, .int .i64 0, .slice none 0 0, .slice none 0 0, .slice none 0 0, .slice none 0 0, .bool false, .slice none 0 0, .slice none 0 0, .slice none 0 0, .slice none 0 0, .slice none 0 0, .bool false], blk g7 27 cs3])) := hs
        obtain ⟨⟨cs54, e56r⟩, hm57⟩ := hp 2 rfl
        have e56 : ρ 40 = .agg cs54.toArray := e56r
        rw [e56r] at hm57
        have hs := hs.memo1 (it := vl t_network_Network x28 (.agg cs54.toArray)) (List.mem_append.2 (.inl (hm57 _ (List.mem_of_getElem? (i := 0) rfl))))
        have hl55 := hs.agglen (n := 3) 0 rfl rfl rfl
        refine WL.storeAll (vs := cs54) hs (Λx.length + 0) (getApp rfl) TI27 ((hu 4 rfl).trans h15_4) e56 rfl hl55 (hs.ones 0 rfl rfl) rfl (fun w hs => ?_)
        have hs := hs.backP
        have hs := hs.toT (A := t_network_Network) 0 rfl fun ok hA => (R_agg (hA.get 0 rfl) rfl)
        exact WL.nil ⟨rfl, _, rfl, trivial, hs.cutG 0 1⟩
      · intro ρ w hs hu58 hp
        obtain ⟨⟨⟨⟨⟨⟨⟨⟨⟨⟨_, hp0_⟩, hp1_⟩, hp2_⟩, hp3_⟩, hp4_⟩, hp5_⟩, hp6_⟩, hp7_⟩, hp8_⟩, hp9_⟩ := hp
        have hs : St ok (bz w0) w [vl t_api_Message x34.Message (ρ 46), pl t_api_Message x34.Message (adOf (ρ 45)), pl t_network_Packet x34 (adOf (ρ 44)), vl (tSlice t_network_Packet) x1.Packets (ρ 42), vl t_network_Network x28 (ρ 40), vl t_network_Network x1 (.agg cs3.toArray)] [tbx t_network_Network x28 g8 27, blk g9 49 [.int .i64 0, .int .i64 0, .int .i64 0, .int .i64 0, .int .i64 0, .int .i64 0, .int .i64 0, .slice none 0 0, .slice none 0 0, .slice none 0 0, .slice none 0 0, .bool false, .slice none 0 0, .slice none 0 0, .slice none 0 0, .slice none 0 0, .slice none 0 0, .bool false], blk g7 27 cs3] := hs
        obtain ⟨cs59, e61⟩ := hp8_
        have e61 : ρ 46 = .agg cs59.toArray := e61
        try rw [e61] at hs
        obtain ⟨ad62, e63⟩ := hp7_
        have e63 : ρ 45 = .pointer (some ad62) := e63
        try rw [e63] at hs
        obtain ⟨ad64, e65⟩ := hp6_
        have e65 : ρ 44 = .pointer (some ad64) := e65
        try rw [e65] at hs
        have e66 : ρ 43 = .int .i64 x11 := hp5_
        obtain ⟨⟨a67, c68⟩, e69⟩ := hp4_
        have e69 : ρ 42 = .slice a67 (x1.Packets).length c68 := e69
        try rw [e69] at hs
        have e70 : ρ 41 = .pointer (some ⟨g7, 1, none⟩) := hp3_
        obtain ⟨cs71, e73⟩ := hp2_
        have e73 : ρ 40 = .agg cs71.toArray := e73
        try rw [e73] at hs
        have e74 : ρ 39 = .int .i64 x11 := hp1_
        have e75 : ρ 38 = .agg cs3.toArray := hp0_
        have hl72 := hs.agglen (n := 3) 4 rfl rfl rfl
        have hl60 := hs.agglen (n := 18) 0 rfl rfl rfl
        obtain ⟨cs76, hl77, hs⟩ := hs.ofT (n := 3) 0 rfl rfl rfl
        refine WA.step [10] (by kernel_rfl) (by simp) ⟨?_, trivial⟩
        refine WL.storeAll (vs := cs59) hs 1 rfl TI49 ((hu58 5 rfl).trans h15_5) e61 rfl hl60 (hs.ones 1 rfl rfl) rfl (fun w hs => ?_)
        refine WL.nil ⟨rfl, _, rfl, ?_⟩
        refine WA.step [11] (by kernel_rfl) (by simp) ⟨?_, trivial⟩
        refine WL.assign (v := .bool true) rfl ?_
        refine WL.nil ⟨rfl, _, rfl, ?_⟩
        refine WA.done (by kernel_rfl) ?_
        refine hK27 _ _ ?_
        refine W.ret ?_
        have hr := Option.some.inj hf; subst hr
        exact ⟨_, resOk_three rfl (res_all hs 0 rfl TI27 ((hu58 4 rfl).trans h15_4) hl77) (res_all hs 1 rfl TI49 ((hu58 5 rfl).trans h15_5) hl60) rfl, (cs76, cs59), rfl, (hs.mask []).pick [0, 1]⟩
  rcases iteE hf with ⟨hc78, hf⟩ | ⟨hc78, hf⟩
  · refine W.any (by kernel_rfl) 20 0 [true, true, true, true, true, true, true, true, true, true, true, true, true, true, true, true, true, true, true, true] rfl rfl (poAt [pv (.bool x12), pv (.bool (!x12)), pv (.bool (!x12)), pv (undef), pv (undef), pv (undef), pv (undef), pv (undef), pv (undef), pv (undef), pv (undef), pv (undef), pv (undef), pv (undef), pv (undef), pv (undef), pv (undef), pv (undef), pv (undef), pv (.bool true)]) (Λ := [blk g9 49 [.int .i64 0, .int .i64 0, .int .i64 0, .int .i64 0, .int .i64 0, .int .i64 0, .int .i64 0, .slice none 0 0, .slice none 0 0, .slice none 0 0, .slice none 0 0, .bool false, .slice none 0 0, .slice none 0 0, .slice none 0 0, .slice none 0 0, .slice none 0 0, .bool false], blk g8 27 [.int .i64 0, .slice none 0 0, .slice none 0 0], blk g7 27 cs3]) hs (by kernel_rfl) (by kernel_rfl) (by kernel_rfl) ⟨⟨⟨⟨⟨⟨⟨⟨⟨⟨⟨⟨⟨⟨⟨⟨⟨⟨⟨⟨trivial, ?_⟩, ?_⟩, ?_⟩, ?_⟩, ?_⟩, ?_⟩, ?_⟩, ?_⟩, ?_⟩, ?_⟩, ?_⟩, ?_⟩, ?_⟩, ?_⟩, ?_⟩, ?_⟩, ?_⟩, ?_⟩, ?_⟩, ?_⟩ ?_
    · intro ρ w Γx Λx hs hu hp
      refine WL.move (v := .bool x12) (hu 8 rfl) ?_
      exact WL.nil ⟨rfl, _, rfl, rfl, hs.cutG 0 0⟩
    · intro ρ w Γx Λx hs hu hp
      have e79 : ρ 15 = .bool x12 := (hp 0 rfl).1
      refine WL.not e79 ?_
      exact WL.nil ⟨rfl, _, rfl, rfl, hs.cutG 0 0⟩
    · intro ρ w Γx Λx hs hu hp
      have e80 : ρ 16 = .bool (!x12) := (hp 1 rfl).1
      refine WL.move (v := .bool (!x12)) e80 ?_
      exact WL.nil ⟨rfl, _, rfl, rfl, hs.cutG 0 0⟩
    · intro ρ w Γx Λx hs hu hp
      have e81 : ρ 17 = .bool (!x12) := (hp 2 rfl).1
      refine WL.pass ((wanted_of rfl rfl (bool_tr e81 hc78)).trans rfl) rfl ?_
      exact WL.nil ⟨rfl, _, rfl, rfl, hs.cutG 0 0⟩
    · intro ρ w Γx Λx hs hu hp
      have e82 : ρ 17 = .bool (!x12) := (hp 2 rfl).1
      refine WL.pass ((wanted_of rfl rfl (bool_tr e82 hc78)).trans rfl) rfl ?_
      exact WL.nil ⟨rfl, _, rfl, rfl, hs.cutG 0 0⟩
    · intro ρ w Γx Λx hs hu hp
      have e83 : ρ 19 = undef := (hp 4 rfl).1
      have e84 : ρ 17 = .bool (!x12) := (hp 2 rfl).1
      refine WL.pass ((wanted_of rfl rfl (bool_tr e84 hc78)).trans rfl) rfl ?_
      exact WL.nil ⟨rfl, _, rfl, rfl, hs.cutG 0 0⟩
    · intro ρ w Γx Λx hs hu hp
      have e85 : ρ 17 = .bool (!x12) := (hp 2 rfl).1
      refine WL.pass ((wanted_of rfl rfl (bool_tr e85 hc78)).trans rfl) rfl ?_
      exact WL.nil ⟨rfl, _, rfl, rfl, hs.cutG 0 0⟩
    · intro ρ w Γx Λx hs hu hp
      have e86 : ρ 20 = undef := (hp 5 rfl).1
      have e87 : ρ 21 = undef := (hp 6 rfl).1
      have e88 : ρ 17 = .bool (!x12) := (hp 2 rfl).1
      refine WL.pass ((wanted_of rfl rfl (bool_tr e88 hc78)).trans rfl) rfl ?_
      exact WL.nil ⟨rfl, _, rfl, rfl, hs.cutG 0 0⟩
    · intro ρ w Γx Λx hs hu hp
      have e89 : ρ 22 = undef := (hp 7 rfl).1
      have e90 : ρ 17 = .bool (!x12) := (hp 2 rfl).1
      refine WL.pass ((wanted_of rfl rfl (bool_tr e90 hc78)).trans rfl) rfl ?_
      exact WL.nil ⟨rfl, _, rfl, rfl, hs.cutG 0 0⟩
    · intro ρ w Γx Λx hs hu hp
      have e91 : ρ 23 = undef := (hp 8 rfl).1
      have e92 : ρ 17 = .bool (!x12) := (hp 2 rfl).1
      refine WL.pass ((wanted_of rfl rfl (bool_tr e92 hc78)).trans rfl) rfl ?_
      exact WL.nil ⟨rfl, _, rfl, rfl, hs.cutG 0 0⟩
    · intro ρ w Γx Λx hs hu hp
      have e93 : ρ 24 = undef := (hp 9 rfl).1
      have e94 : ρ 17 = .bool (!x12) := (hp 2 rfl).1
      refine WL.pass ((wanted_of rfl rfl (bool_tr e94 hc78)).trans rfl) rfl ?_
      exact WL.nil ⟨rfl, _, rfl, rfl, hs.cutG 0 0⟩
    · intro ρ w Γx Λx hs hu hp
      have e95 : ρ 17 = .bool (!x12) := (hp 2 rfl).1
      refine WL.pass ((wanted_of rfl rfl (bool_tr e95 hc78)).trans rfl) rfl ?_
      exact WL.nil ⟨rfl, _, rfl, rfl, hs.cutG 0 0⟩
    · intro ρ w Γx Λx hs hu hp
      have e96 : ρ 26 = undef := (hp 11 rfl).1
      have e97 : ρ 17 = .bool (!x12) := (hp 2 rfl).1
      refine WL.pass ((wanted_of rfl rfl (bool_tr e97 hc78)).trans rfl) rfl ?_
      exact WL.nil ⟨rfl, _, rfl, rfl, hs.cutG 0 0⟩
    · intro ρ w Γx Λx hs hu hp
      have e98 : ρ 17 = .bool (!x12) := (hp 2 rfl).1
      refine WL.pass ((wanted_of rfl rfl (bool_tr e98 hc78)).trans rfl) rfl ?_
      exact WL.nil ⟨rfl, _, rfl, rfl, hs.cutG 0 0⟩
    · intro ρ w Γx Λx hs hu hp
      have e99 : ρ 27 = undef := (hp 12 rfl).1
      have e100 : ρ 28 = undef := (hp 13 rfl).1
      have e101 : ρ 17 = .bool (!x12) := (hp 2 rfl).1
      refine WL.pass ((wanted_of rfl rfl (bool_tr e101 hc78)).trans rfl) rfl ?_
      exact WL.nil ⟨rfl, _, rfl, rfl, hs.cutG 0 0⟩
    · intro ρ w Γx Λx hs hu hp
      have e102 : ρ 29 = undef := (hp 14 rfl).1
      have e103 : ρ 17 = .bool (!x12) := (hp 2 rfl).1
      refine WL.pass ((wanted_of rfl rfl (bool_tr e103 hc78)).trans rfl) rfl ?_
      exact WL.nil ⟨rfl, _, rfl, rfl, hs.cutG 0 0⟩
    · intro ρ w Γx Λx hs hu hp
      have e104 : ρ 30 = undef := (hp 15 rfl).1
      have e105 : ρ 17 = .bool (!x12) := (hp 2 rfl).1
      refine WL.pass ((wanted_of rfl rfl (bool_tr e105 hc78)).trans rfl) rfl ?_
      exact WL.nil ⟨rfl, _, rfl, rfl, hs.cutG 0 0⟩
    · intro ρ w Γx Λx hs hu hp
      have e106 : ρ 31 = undef := (hp 16 rfl).1
      have e107 : ρ 17 = .bool (!x12) := (hp 2 rfl).1
      refine WL.pass ((wanted_of rfl rfl (bool_tr e107 hc78)).trans rfl) rfl ?_
      exact WL.nil ⟨rfl, _, rfl, rfl, hs.cutG 0 0⟩
    · intro ρ w Γx Λx hs hu hp
      have e108 : ρ 18 = undef := (hp 3 rfl).1
      have e109 : ρ 25 = undef := (hp 10 rfl).1
      have e110 : ρ 32 = undef := (hp 17 rfl).1
      have e111 : ρ 17 = .bool (!x12) := (hp 2 rfl).1
      refine WL.pass ((wanted_of rfl rfl (bool_tr e111 hc78)).trans rfl) rfl ?_
      exact WL.nil ⟨rfl, _, rfl, rfl, hs.cutG 0 0⟩
    · intro ρ w Γx Λx hs hu hp
      have e112 : ρ 17 = .bool (!x12) := (hp 2 rfl).1
      have e113 : ρ 33 = undef := (hp 18 rfl).1
      refine WL.pickT (v := .bool true) (bool_tr e112 hc78) rfl ?_
      exact WL.nil ⟨rfl, _, rfl, rfl, hs.cutG 0 0⟩
    · intro ρ w hs hu114 hp
      obtain ⟨⟨⟨⟨⟨⟨⟨⟨⟨⟨⟨⟨⟨⟨⟨⟨⟨⟨⟨⟨_, hp0_⟩, hp1_⟩, hp2_⟩, hp3_⟩, hp4_⟩, hp5_⟩, hp6_⟩, hp7_⟩, hp8_⟩, hp9_⟩, hp10_⟩, hp11_⟩, hp12_⟩, hp13_⟩, hp14_⟩, hp15_⟩, hp16_⟩, hp17_⟩, hp18_⟩, hp19_⟩ := hp
      have hs : St ok (bz w0) w [vl t_network_Network x1 (.agg cs3.toArray)] [blk g9 49 [.int .i64 0, .int .i64 0, .int .i64 0, .int .i64 0, .int .i64 0, .int .i64 0, .int .i64 0, .slice none 0 0, .slice none 0 0, .slice none 0 0, .slice none 0 0, .bool false, .slice none 0 0, .slice none 0 0, .slice none 0 0, .slice none 0 0, .slice none 0 0, .bool false], blk g8 27 [.int .i64 0, .slice none 0 0, .slice none 0 0], blk g7 27 cs3] := hs
      have e115 : ρ 34 = .bool true := hp19_
      have e116 : ρ 33 = undef := hp18_
      have e117 : ρ 32 = undef := hp17_
      have e118 : ρ 31 = undef := hp16_
      have e119 : ρ 30 = undef := hp15_
      have e120 : ρ 29 = undef := hp14_
      have e121 : ρ 28 = undef := hp13_
      have e122 : ρ 27 = undef := hp12_
      have e123 : ρ 26 = undef := hp11_
      have e124 : ρ 25 = undef := hp10_
      have e125 : ρ 24 = undef := hp9_
      have e126 : ρ 23 = undef := hp8_
      have e127 : ρ 22 = undef := hp7_
      have e128 : ρ 21 = undef := hp6_
      have e129 : ρ 20 = undef := hp5_
      have e130 : ρ 19 = undef := hp4_
      have e131 : ρ 18 = undef := hp3_
      have e132 : ρ 17 = .bool (!x12) := hp2_
      have e133 : ρ 16 = .bool (!x12) := hp1_
      have e134 : ρ 15 = .bool x12 := hp0_
      refine WA.done (by kernel_rfl) ?_
      exact Jk17 true _ _ (hu114 2 rfl) (hu114 4 rfl) (hu114 5 rfl) (hu114 7 rfl) e115 ((hs.mask [true, true, true]).pick [0]) hf
  · obtain ⟨x138, hxx138, hf⟩ := bindE hf
    obtain ⟨x146, hxx146, hf⟩ := bindE hf
    obtain ⟨x151, hxx151, hf⟩ := bindE hf
    refine W.any (by kernel_rfl) 20 0 [true, true, true, true, true, true, true, true, true, true, true, true, true, true, true, true, true, true, true, true] rfl rfl (poAt [pv (.bool x12), pv (.bool (!x12)), pv (.bool (!x12)), pv (.agg cs3.toArray), pv (.pointer (some ⟨g7, 1, none⟩)), pq (fun y : (Option Addr × Nat) => .slice y.1 (x1.Packets).length y.2) (fun v => [vl (tSlice t_network_Packet) x1.Packets v]) (fun v => []), pv (.int .i64 x11), pq (fun y : Addr => .pointer (some y)) (fun v => [pl t_network_Packet x138 (adOf v)]) (fun v => []), pq (fun y : Addr => .pointer (some y)) (fun v => [pl t_api_Message x138.Message (adOf v)]) (fun v => []), pq (fun y : Addr => .pointer (some y)) (fun v => [pl (tInt .i64) x138.Message.From (adOf v)]) (fun v => []), pv (.int .i64 x138.Message.From), pv (.pointer (some ⟨g7, 1, none⟩)), pq (fun y : (Option Addr × Nat) => .slice y.1 (x1.Packets).length y.2) (fun v => [vl (tSlice t_network_Packet) x1.Packets v]) (fun v => []), pv (.int .i64 x11), pq (fun y : Addr => .pointer (some y)) (fun v => [pl t_network_Packet x146 (adOf v)]) (fun v => []), pq (fun y : Addr => .pointer (some y)) (fun v => [pl t_api_Message x146.Message (adOf v)]) (fun v => []), pq (fun y : Addr => .pointer (some y)) (fun v => [pl (tInt .i64) x146.Message.To (adOf v)]) (fun v => []), pv (.int .i64 x146.Message.To), pv (.bool x151), pv (.bool x151)]) (Λ := [blk g9 49 [.int .i64 0, .int .i64 0, .int .i64 0, .int .i64 0, .int .i64 0, .int .i64 0, .int .i64 0, .slice none 0 0, .slice none 0 0, .slice none 0 0, .slice none 0 0, .bool false, .slice none 0 0, .slice none 0 0, .slice none 0 0, .slice none 0 0, .slice none 0 0, .bool false], blk g8 27 [.int .i64 0, .slice none 0 0, .slice none 0 0], blk g7 27 cs3]) hs (by kernel_rfl) (by kernel_rfl) (by kernel_rfl) ⟨⟨⟨⟨⟨⟨⟨⟨⟨⟨⟨⟨⟨⟨⟨⟨⟨⟨⟨⟨trivial, ?_⟩, ?_⟩, ?_⟩, ?_⟩, ?_⟩, ?_⟩, ?_⟩, ?_⟩, ?_⟩, ?_⟩, ?_⟩, ?_⟩, ?_⟩, ?_⟩, ?_⟩, ?_⟩, ?_⟩, ?_⟩, ?_⟩, ?_⟩ ?_
    · intro ρ w Γx Λx hs hu hp
      refine WL.move (v := .bool x12) (hu 8 rfl) ?_
      exact WL.nil ⟨rfl, _, rfl, rfl, hs.cutG 0 0⟩
    · intro ρ w Γx Λx hs hu hp
      have e152 : ρ 15 = .bool x12 := (hp 0 rfl).1
      refine WL.not e152 ?_
      exact WL.nil ⟨rfl, _, rfl, rfl, hs.cutG 0 0⟩
    · intro ρ w Γx Λx hs hu hp
      have e153 : ρ 16 = .bool (!x12) := (hp 1 rfl).1
      refine WL.move (v := .bool (!x12)) e153 ?_
      exact WL.nil ⟨rfl, _, rfl, rfl, hs.cutG 0 0⟩
    · intro ρ w Γx Λx hs hu hp
      have e154 : ρ 17 = .bool (!x12) := (hp 2 rfl).1
      refine WL.loadAll hs (Λx.length + 2) (getApp rfl) TI27 (hu 2 rfl) hl4 ?_ (hg := (wanted_of rfl rfl (bool_tr e154 hc78)).trans rfl)
      exact WL.nil ⟨rfl, _, rfl, rfl, hs.cutG 0 0⟩
    · intro ρ w Γx Λx hs hu hp
      have e155 : ρ 17 = .bool (!x12) := (hp 2 rfl).1
      refine WL.fieldAddr (m := 1) (hu 2 rfl) FA27_1 rfl ?_ (hg := (wanted_of rfl rfl (bool_tr e155 hc78)).trans rfl)
      exact WL.nil ⟨rfl, _, rfl, rfl, hs.cutG 0 0⟩
    · intro ρ w Γx Λx hs hu hp
      have e156 : ρ 19 = .pointer (some ⟨g7, 1, none⟩) := (hp 4 rfl).1
      have e157 : ρ 17 = .bool (!x12) := (hp 2 rfl).1
      refine WL.loadF (z := x1.Packets) F_network_Network_Packets hs (Λx.length + 2) (getApp rfl) (Γx.length + 0) (getApp rfl) rfl TI25 (.inr rfl) e156 rfl (fun v135 hs => ?_) (hg := (wanted_of rfl rfl (bool_tr e157 hc78)).trans rfl)
      obtain ⟨a136, c137, rfl⟩ := hs.slice 0 rfl
      have hs := hs.add (it := vl (tSlice t_network_Packet) x1.Packets (.slice a136 (x1.Packets).length c137)) fun ok hA => hA.get 0 rfl
      exact WL.nil ⟨rfl, _, rfl, ⟨(a136, c137), rfl⟩, hs.cutG 1 1⟩
    · intro ρ w Γx Λx hs hu hp
      have e158 : ρ 17 = .bool (!x12) := (hp 2 rfl).1
      refine WL.move (v := .int .i64 x11) (hu 7 rfl) ?_ (hg := (wanted_of rfl rfl (bool_tr e158 hc78)).trans rfl)
      exact WL.nil ⟨rfl, _, rfl, rfl, hs.cutG 0 0⟩
    · intro ρ w Γx Λx hs hu hp
      obtain ⟨⟨⟨a159, c160⟩, e161r⟩, hm162⟩ := hp 5 rfl
      have e161 : ρ 20 = .slice a159 (x1.Packets).length c160 := e161r
      rw [e161r] at hm162
      have hs := hs.memo1 (it := vl (tSlice t_network_Packet) x1.Packets (.slice a159 (x1.Packets).length c160)) (List.mem_append.2 (.inl (hm162 _ (List.mem_of_getElem? (i := 0) rfl))))
      have e163 : ρ 21 = .int .i64 x11 := (hp 6 rfl).1
      have e164 : ρ 17 = .bool (!x12) := (hp 2 rfl).1
      refine WL.indexAddr hs 0 rfl UN25 TI51 e161 e163 hxx138 (fun ad139 hs => ?_) (hg := (wanted_of rfl rfl (bool_tr e164 hc78)).trans rfl)
      have hs := hs.add (it := pl t_network_Packet x138 ad139) fun ok hA => hA.get 0 rfl
      exact WL.nil ⟨rfl, _, rfl, ⟨ad139, rfl⟩, hs.cutG 1 2⟩
    · intro ρ w Γx Λx hs hu hp
      obtain ⟨⟨ad165, e166r⟩, hm167⟩ := hp 7 rfl
      have e166 : ρ 22 = .pointer (some ad165) := e166r
      rw [e166r] at hm167
      have hs := hs.memo1 (it := pl t_network_Packet x138 ad165) (List.mem_append.2 (.inl (hm167 _ (List.mem_of_getElem? (i := 0) rfl))))
      have e168 : ρ 17 = .bool (!x12) := (hp 2 rfl).1
      refine WL.fieldAddrP (z := x138.Message) F_network_Packet_Message hs 0 rfl e166 FA51_1 rfl (fun ad140 hs => ?_) (hg := (wanted_of rfl rfl (bool_tr e168 hc78)).trans rfl)
      have hs := hs.add (it := pl t_api_Message x138.Message ad140) fun ok hA => hA.get 0 rfl
      exact WL.nil ⟨rfl, _, rfl, ⟨ad140, rfl⟩, hs.cutG 1 2⟩
    · intro ρ w Γx Λx hs hu hp
      obtain ⟨⟨ad169, e170r⟩, hm171⟩ := hp 8 rfl
      have e170 : ρ 23 = .pointer (some ad169) := e170r
      rw [e170r] at hm171
      have hs := hs.memo1 (it := pl t_api_Message x138.Message ad169) (List.mem_append.2 (.inl (hm171 _ (List.mem_of_getElem? (i := 0) rfl))))
      have e172 : ρ 17 = .bool (!x12) := (hp 2 rfl).1
      refine WL.fieldAddrP (z := x138.Message.From) F_api_Message_From hs 0 rfl e170 FA49_1 rfl (fun ad141 hs => ?_) (hg := (wanted_of rfl rfl (bool_tr e172 hc78)).trans rfl)
      have hs := hs.add (it := pl (tInt .i64) x138.Message.From ad141) fun ok hA => hA.get 0 rfl
      exact WL.nil ⟨rfl, _, rfl, ⟨ad141, rfl⟩, hs.cutG 1 2⟩
    · intro ρ w Γx Λx hs hu hp
      obtain ⟨⟨ad173, e174r⟩, hm175⟩ := hp 9 rfl
      have e174 : ρ 24 = .pointer (some ad173) := e174r
      rw [e174r] at hm175
      have hs := hs.memo1 (it := pl (tInt .i64) x138.Message.From ad173) (List.mem_append.2 (.inl (hm175 _ (List.mem_of_getElem? (i := 0) rfl))))
      have e176 : ρ 17 = .bool (!x12) := (hp 2 rfl).1
      refine WL.loadP hs 0 rfl TI3 (.inr rfl) e174 (fun v142 hs => ?_) (hg := (wanted_of rfl rfl (bool_tr e176 hc78)).trans rfl)
      obtain rfl := hs.int 0 rfl
      exact WL.nil ⟨rfl, _, rfl, rfl, hs.cutG 0 2⟩
    · intro ρ w Γx Λx hs hu hp
      have e177 : ρ 17 = .bool (!x12) := (hp 2 rfl).1
      refine WL.fieldAddr (m := 1) (hu 2 rfl) FA27_1 rfl ?_ (hg := (wanted_of rfl rfl (bool_tr e177 hc78)).trans rfl)
      exact WL.nil ⟨rfl, _, rfl, rfl, hs.cutG 0 0⟩
    · intro ρ w Γx Λx hs hu hp
      have e178 : ρ 26 = .pointer (some ⟨g7, 1, none⟩) := (hp 11 rfl).1
      have e179 : ρ 17 = .bool (!x12) := (hp 2 rfl).1
      refine WL.loadF (z := x1.Packets) F_network_Network_Packets hs (Λx.length + 2) (getApp rfl) (Γx.length + 0) (getApp rfl) rfl TI25 (.inr rfl) e178 rfl (fun v143 hs => ?_) (hg := (wanted_of rfl rfl (bool_tr e179 hc78)).trans rfl)
      obtain ⟨a144, c145, rfl⟩ := hs.slice 0 rfl
      have hs := hs.add (it := vl (tSlice t_network_Packet) x1.Packets (.slice a144 (x1.Packets).length c145)) fun ok hA => hA.get 0 rfl
      exact WL.nil ⟨rfl, _, rfl, ⟨(a144, c145), rfl⟩, hs.cutG 1 1⟩
    · intro ρ w Γx Λx hs hu hp
      have e180 : ρ 17 = .bool (!x12) := (hp 2 rfl).1
      refine WL.move (v := .int .i64 x11) (hu 7 rfl) ?_ (hg := (wanted_of rfl rfl (bool_tr e180 hc78)).trans rfl)
      exact WL.nil ⟨rfl, _, rfl, rfl, hs.cutG 0 0⟩
    · intro ρ w Γx Λx hs hu hp
      obtain ⟨⟨⟨a181, c182⟩, e183r⟩, hm184⟩ := hp 12 rfl
      have e183 : ρ 27 = .slice a181 (x1.Packets).length c182 := e183r
      rw [e183r] at hm184
      have hs := hs.memo1 (it := vl (tSlice t_network_Packet) x1.Packets (.slice a181 (x1.Packets).length c182)) (List.mem_append.2 (.inl (hm184 _ (List.mem_of_getElem? (i := 0) rfl))))
      have e185 : ρ 28 = .int .i64 x11 := (hp 13 rfl).1
      have e186 : ρ 17 = .bool (!x12) := (hp 2 rfl).1
      refine WL.indexAddr hs 0 rfl UN25 TI51 e183 e185 hxx146 (fun ad147 hs => ?_) (hg := (wanted_of rfl rfl (bool_tr e186 hc78)).trans rfl)
      have hs := hs.add (it := pl t_network_Packet x146 ad147) fun ok hA => hA.get 0 rfl
      exact WL.nil ⟨rfl, _, rfl, ⟨ad147, rfl⟩, hs.cutG 1 2⟩
    · intro ρ w Γx Λx hs hu hp
      obtain ⟨⟨ad187, e188r⟩, hm189⟩ := hp 14 rfl
      have e188 : ρ 29 = .pointer (some ad187) := e188r
      rw [e188r] at hm189
      have hs := hs.memo1 (it := pl t_network_Packet x146 ad187) (List.mem_append.2 (.inl (hm189 _ (List.mem_of_getElem? (i := 0) rfl))))
      have e190 : ρ 17 = .bool (!x12) := (hp 2 rfl).1
      refine WL.fieldAddrP (z := x146.Message) F_network_Packet_Message hs 0 rfl e188 FA51_1 rfl (fun ad148 hs => ?_) (hg := (wanted_of rfl rfl (bool_tr e190 hc78)).trans rfl)
      have hs := hs.add (it := pl t_api_Message x146.Message ad148) fun ok hA => hA.get 0 rfl
      exact WL.nil ⟨rfl, _, rfl, ⟨ad148, rfl⟩, hs.cutG 1 2⟩
    · intro ρ w Γx Λx hs hu hp
      obtain ⟨⟨ad191, e192r⟩, hm193⟩ := hp 15 rfl
      have e192 : ρ 30 = .pointer (some ad191) := e192r
      rw [e192r] at hm193
      have hs := hs.memo1 (it := pl t_api_Message x146.Message ad191) (List.mem_append.2 (.inl (hm193 _ (List.mem_of_getElem? (i := 0) rfl))))
      have e194 : ρ 17 = .bool (!x12) := (hp 2 rfl).1
      refine WL.fieldAddrP (z := x146.Message.To) F_api_Message_To hs 0 rfl e192 FA49_2 rfl (fun ad149 hs => ?_) (hg := (wanted_of rfl rfl (bool_tr e194 hc78)).trans rfl)
      have hs := hs.add (it := pl (tInt .i64) x146.Message.To ad149) fun ok hA => hA.get 0 rfl
      exact WL.nil ⟨rfl, _, rfl, ⟨ad149, rfl⟩, hs.cutG 1 2⟩
    · intro ρ w Γx Λx hs hu hp
      obtain ⟨⟨ad195, e196r⟩, hm197⟩ := hp 16 rfl
      have e196 : ρ 31 = .pointer (some ad195) := e196r
      rw [e196r] at hm197
      have hs := hs.memo1 (it := pl (tInt .i64) x146.Message.To ad195) (List.mem_append.2 (.inl (hm197 _ (List.mem_of_getElem? (i := 0) rfl))))
      have e198 : ρ 17 = .bool (!x12) := (hp 2 rfl).1
      refine WL.loadP hs 0 rfl TI3 (.inr rfl) e196 (fun v150 hs => ?_) (hg := (wanted_of rfl rfl (bool_tr e198 hc78)).trans rfl)
      obtain rfl := hs.int 0 rfl
      exact WL.nil ⟨rfl, _, rfl, rfl, hs.cutG 0 2⟩
    · intro ρ w Γx Λx hs hu hp
      have e199 : ρ 18 = .agg cs3.toArray := (hp 3 rfl).1
      have e200 : ρ 25 = .int .i64 x138.Message.From := (hp 10 rfl).1
      have e201 : ρ 32 = .int .i64 x146.Message.To := (hp 17 rfl).1
      have e202 : ρ 17 = .bool (!x12) := (hp 2 rfl).1
      refine WL.call (vs := [.agg cs3.toArray, .int .i64 x138.Message.From, .int .i64 x146.Message.To]) hs FN13 ⟨e199, ⟨e200, ⟨e201, trivial⟩⟩⟩ (fun ok hA => network_Blocked.calls (x1 := x1) (x5 := x138.Message.From) (x6 := x146.Message.To) hxx151 (hA.get (Γx.length + 0) (getApp rfl))) ?_ (hg := (wanted_of rfl rfl (bool_tr e202 hc78)).trans rfl)
      rintro _ w hs
      exact WL.nil ⟨rfl, _, rfl, rfl, hs.cutG 0 0⟩
    · intro ρ w Γx Λx hs hu hp
      have e203 : ρ 17 = .bool (!x12) := (hp 2 rfl).1
      have e204 : ρ 33 = .bool x151 := (hp 18 rfl).1
      refine WL.pickF (v := .bool x151) (bool_tr e203 hc78) e204 ?_
      exact WL.nil ⟨rfl, _, rfl, rfl, hs.cutG 0 0⟩
    · intro ρ w hs hu205 hp
      obtain ⟨⟨⟨⟨⟨⟨⟨⟨⟨⟨⟨⟨⟨⟨⟨⟨⟨⟨⟨⟨_, hp0_⟩, hp1_⟩, hp2_⟩, hp3_⟩, hp4_⟩, hp5_⟩, hp6_⟩, hp7_⟩, hp8_⟩, hp9_⟩, hp10_⟩, hp11_⟩, hp12_⟩, hp13_⟩, hp14_⟩, hp15_⟩, hp16_⟩, hp17_⟩, hp18_⟩, hp19_⟩ := hp
      have hs : St ok (bz w0) w [pl (tInt .i64) x146.Message.To (adOf (ρ 31)), pl t_api_Message x146.Message (adOf (ρ 30)), pl t_network_Packet x146 (adOf (ρ 29)), vl (tSlice t_network_Packet) x1.Packets (ρ 27), pl (tInt .i64) x138.Message.From (adOf (ρ 24)), pl t_api_Message x138.Message (adOf (ρ 23)), pl t_network_Packet x138 (adOf (ρ 22)), vl (tSlice t_network_Packet) x1.Packets (ρ 20), vl t_network_Network x1 (.agg cs3.toArray)] [blk g9 49 [.int .i64 0, .int .i64 0, .int .i64 0, .int .i64 0, .int .i64 0, .int .i64 0, .int .i64 0, .slice none 0 0, .slice none 0 0, .slice none 0 0, .slice none 0 0, .bool false, .slice none 0 0, .slice none 0 0, .slice none 0 0, .slice none 0 0, .slice none 0 0, .bool false], blk g8 27 [.int .i64 0, .slice none 0 0, .slice none 0 0], blk g7 27 cs3] := hs
      have e206 : ρ 34 = .bool x151 := hp19_
      have e207 : ρ 33 = .bool x151 := hp18_
      have e208 : ρ 32 = .int .i64 x146.Message.To := hp17_
      obtain ⟨ad209, e210⟩ := hp16_
      have e210 : ρ 31 = .pointer (some ad209) := e210
      try rw [e210] at hs
      obtain ⟨ad211, e212⟩ := hp15_
      have e212 : ρ 30 = .pointer (some ad211) := e212
      try rw [e212] at hs
      obtain ⟨ad213, e214⟩ := hp14_
      have e214 : ρ 29 = .pointer (some ad213) := e214
      try rw [e214] at hs
      have e215 : ρ 28 = .int .i64 x11 := hp13_
      obtain ⟨⟨a216, c217⟩, e218⟩ := hp12_
      have e218 : ρ 27 = .slice a216 (x1.Packets).length c217 := e218
      try rw [e218] at hs
      have e219 : ρ 26 = .pointer (some ⟨g7, 1, none⟩) := hp11_
      have e220 : ρ 25 = .int .i64 x138.Message.From := hp10_
      obtain ⟨ad221, e222⟩ := hp9_
      have e222 : ρ 24 = .pointer (some ad221) := e222
      try rw [e222] at hs
      obtain ⟨ad223, e224⟩ := hp8_
      have e224 : ρ 23 = .pointer (some ad223) := e224
      try rw [e224] at hs
      obtain ⟨ad225, e226⟩ := hp7_
      have e226 : ρ 22 = .pointer (some ad225) := e226
      try rw [e226] at hs
      have e227 : ρ 21 = .int .i64 x11 := hp6_
      obtain ⟨⟨a228, c229⟩, e230⟩ := hp5_
      have e230 : ρ 20 = .slice a228 (x1.Packets).length c229 := e230
      try rw [e230] at hs
      have e231 : ρ 19 = .pointer (some ⟨g7, 1, none⟩) := hp4_
      have e232 : ρ 18 = .agg cs3.toArray := hp3_
      have e233 : ρ 17 = .bool (!x12) := hp2_
      have e234 : ρ 16 = .bool (!x12) := hp1_
      have e235 : ρ 15 = .bool x12 := hp0_
      refine WA.done (by kernel_rfl) ?_
      exact Jk17 x151 _ _ (hu205 2 rfl) (hu205 4 rfl) (hu205 5 rfl) (hu205 7 rfl) e206 ((hs.mask [true, true, true]).pick [8]) hf
/-! elasticstore/network.Heal: function 15 -/
theorem network_Heal.calls {ok : Nat → Prop} {w0 : World} {x1 : network_Network} {v2 : Value} {r : network_Network} (hf : network_Heal x1 = some r) (i0 : (vl t_network_Network x1 v2).holds ok w0) :
    Calls Try.prog 15 #[v2] w0 fun e w' => ∃ v, e = .returned v ∧ ∃ y : (Option Addr × Nat × Nat) × (Option Addr × Nat × Nat), v = .agg ([.int .i64 r.Next, .slice y.1.1 y.1.2.1 y.1.2.2, .slice y.2.1 y.2.2.1 y.2.2.2] : List Value).toArray ∧ St ok (bz w0) w' [] [own t_network_Packet 51 (.slice y.1.1 y.1.2.1 y.1.2.2) r.Packets, own t_network_Side 69 (.slice y.2.1 y.2.2.1 y.2.2.2) r.Sides] := by
  unfold network_Heal at hf
  refine calls_of_W (fn := Try.f15) (N := 5) Try.func15 rfl Try.ntmps15 rfl ?_
  have hs : St ok (bz w0) w0 [vl t_network_Network x1 v2] [] := St.init (All.cons i0 All.nil)
  clear i0
  obtain ⟨cs3, hl4, rfl⟩ := hs.aggv (n := 3) 0 rfl rfl rfl
  refine W.seqK fun K5 hK5 => ?_
  refine W.region ?_
  refine WL.box (vs := cs3) hs rfl rfl (fun g6 w hs => ?_)
  refine WL.alloc hs ZV27 (fun g7 w hs => ?_)
  refine WL.nil ?_
  refine hK5 _ _ ?_
  refine W.seqK fun K8 hK8 => ?_
  refine W.region ?_
  refine WL.loadAll hs 1 rfl TI27 rfl hl4 ?_
  have hs := hs.add (it := vl (tSlice t_network_Side) [] (.slice none 0 0)) fun ok hA => V_nil
  obtain ⟨x9, hxx9, hf⟩ := bindE hf
  refine WL.call (vs := [.agg cs3.toArray, .slice none 0 0]) hs FN12 ⟨rfl, ⟨rfl, trivial⟩⟩ (fun ok hA => network_Partition.calls (a6 := none) (c7 := 0) (x1 := x1) (x5 := []) hxx9 (hA.get 1 rfl) (hA.get 0 rfl)) ?_
  rintro ⟨⟨a10, n11, c12⟩, ⟨a13, n14, c15⟩⟩ w hs
  refine WL.storeAll (vs := [.int .i64 x9.Next, .slice a10 n11 c12, .slice a13 n14 c15]) hs 2 rfl TI27 rfl rfl rfl rfl (ones_of rfl) rfl (fun w hs => ?_)
  refine WL.nil ?_
  refine hK8 _ _ ?_
  refine W.ret ?_
  have hr := Option.some.inj hf; subst hr
  exact ⟨_, resOk_one rfl (res_all hs 2 rfl TI27 rfl rfl), ((a10, n11, c12), (a13, n14, c15)), rfl, (hs.mask [true, true]).pick []⟩
theorem network_Heal.callc {ok : Nat → Prop} {w0 : World} {x1 : network_Network} {v2 : Value} {r : network_Network} (hf : network_Heal x1 = some r) (i0 : (vl t_network_Network x1 v2).holds ok w0) :
    Calls Try.prog 15 #[v2] w0 fun e w' => ∃ v, e = .returned v ∧ ∃ y : List Value, v = .agg y.toArray ∧ St ok (bz w0) w' [vl t_network_Network r (.agg y.toArray)] [] := by
  refine (network_Heal.calls (ok := ok) (w0 := w0) (x1 := x1) hf i0).mono ?_
  rintro e w' ⟨v, rfl, ⟨⟨a16, n17, c18⟩, ⟨a19, n20, c21⟩⟩, rfl, hs⟩
  obtain rfl := hs.ownLen 0 rfl
  have hs := hs.freezeOwn 0 rfl
  obtain rfl := hs.ownLen 0 rfl
  have hs := hs.freezeOwn 0 rfl
  have hs := hs.add (it := vl t_network_Network (⟨r.Next, r.Packets, r.Sides⟩ : network_Network) (.agg [.int .i64 r.Next, .slice a16 (r.Packets).length c18, .slice a19 (r.Sides).length c21].toArray)) fun ok hA => V_agg (show t_network_Network.R ok _ _ _ from ⟨[.int .i64 r.Next], [.slice a16 (r.Packets).length c18, .slice a19 (r.Sides).length c21], rfl, rfl, ⟨[.slice a16 (r.Packets).length c18], [.slice a19 (r.Sides).length c21], rfl, (R_one (hA.get 1 rfl)), (R_one (hA.get 0 rfl))⟩⟩) rfl
  exact ⟨_, rfl, [.int .i64 r.Next, .slice a16 (r.Packets).length c18, .slice a19 (r.Sides).length c21], rfl, hs.pick [0]⟩
end Go.Proofs.Ytahobbichanccaa
