import Derived.Test.YtahobbichanccaaFh
import Derived.Test.YtahobbichanccaaFp3
import Derived.Test.YtahobbichanccaaFp4
set_option linter.unusedVariables false
set_option linter.unusedSimpArgs false
namespace Go.Proofs.Ytahobbichanccaa
open Go Go.RowKit Go.Proofs.YtahobbichanccaaL
set_option maxRecDepth 100000
set_option maxHeartbeats 400000
/-! elasticstore/elasticstoreref36.Deliver: function 32 -/
theorem esref36_Deliver.calls {ok : Nat → Prop} {w0 : World} {x1 : network_Network} {x5 : Int} {v2 : Value} {r : network_Network × api_Message × Bool} (hf : esref36_Deliver x1 x5 = some r) (i0 : (vl t_network_Network x1 v2).holds ok w0) :
    Calls Try.prog 32 #[v2, .int .i64 x5] w0 fun e w' => ∃ v, e = .returned v ∧ ∃ y : (List Value) × (List Value), v = .tuple #[.agg y.1.toArray, .agg y.2.toArray, .bool r.2.2] ∧ St ok (bz w0) w' [vl t_network_Network r.1 (.agg y.1.toArray), vl t_api_Message r.2.1 (.agg y.2.toArray)] [] := by
  unfold esref36_Deliver at hf
  refine calls_of_W (fn := Try.f32) (N := 42) Try.func32 rfl Try.ntmps32 rfl ?_
  have hs : St ok (bz w0) w0 [vl t_network_Network x1 v2] [] := St.init (All.cons i0 All.nil)
  clear i0
  obtain ⟨cs3, hl4, rfl⟩ := hs.aggv (n := 3) 0 rfl rfl rfl
  refine W.seqK fun K6 hK6 => ?_
  refine W.region ?_
  refine WL.box (vs := cs3) hs rfl rfl (fun g7 w hs => ?_)
  refine WL.alloc hs ZV27 (fun g8 w hs => ?_)
  refine WL.alloc hs ZV49 (fun g9 w hs => ?_)
  refine WL.assign (v := .bool false) rfl ?_
  refine WL.nil ?_
  refine hK6 _ _ ?_
  refine W.seqK fun K10 hK10 => ?_
  refine W.region ?_
  refine WL.loadAll hs 2 rfl TI27 rfl hl4 ?_
  refine WL.move (v := .int .i64 x5) rfl ?_
  obtain ⟨x11, hxx11, hf⟩ := bindE hf
  refine WL.call (vs := [.agg cs3.toArray, .int .i64 x5]) hs FN41 ⟨rfl, ⟨rfl, trivial⟩⟩ (fun ok hA => esref36_find.calls (x1 := x1) (x5 := x5) hxx11 (hA.get 0 rfl)) ?_
  rintro _ w hs
  refine WL.assign (v := .int .i64 x11) rfl ?_
  refine WL.nil ?_
  refine hK10 _ _ ?_
  refine W.seqK fun K12 hK12 => ?_
  refine W.seqK fun K13 hK13 => ?_
  have Jk16 : ∀ (x15 : Bool) (ρ : Env) (w : World), ρ 2 = .pointer (some ⟨g7, 0, none⟩) → ρ 4 = .pointer (some ⟨g8, 0, none⟩) → ρ 5 = .pointer (some ⟨g9, 0, none⟩) → ρ 7 = .int .i64 x11 → ρ 30 = .bool x15 → St ok (bz w0) w [vl t_network_Network x1 (.agg cs3.toArray)] [blk g9 49 [.int .i64 0, .int .i64 0, .int .i64 0, .int .i64 0, .int .i64 0, .int .i64 0, .int .i64 0, .slice none 0 0, .slice none 0 0, .slice none 0 0, .slice none 0 0, .bool false, .slice none 0 0, .slice none 0 0, .slice none 0 0, .slice none 0 0, .slice none 0 0, .bool false], blk g8 27 [.int .i64 0, .slice none 0 0, .slice none 0 0], blk g7 27 cs3] → esref36_Deliver.j1 x1 x11 x15 = some r → K13 ρ w := by
    intro x15 ρ w h14_2 h14_4 h14_5 h14_7 h14_30 hs hf
    refine hK13 _ _ ?_
    unfold esref36_Deliver.j1 at hf
    rcases iteE hf with ⟨hc17, hf⟩ | ⟨hc17, hf⟩
    · refine W.cond_true (bool_tr h14_30 hc17) ?_
      refine W.seqK fun K18 hK18 => ?_
      refine W.region ?_
      refine WL.loadAll hs 2 rfl TI27 h14_2 hl4 ?_
      refine WL.build (vs := []) (cs := [.int .i64 0, .int .i64 0, .int .i64 0, .int .i64 0, .int .i64 0, .int .i64 0, .int .i64 0, .slice none 0 0, .slice none 0 0, .slice none 0 0, .slice none 0 0, .bool false, .slice none 0 0, .slice none 0 0, .slice none 0 0, .slice none 0 0, .slice none 0 0, .bool false]) trivial (bld PL49 rfl) ?_
      refine WL.storeAll (vs := cs3) hs 1 rfl TI27 h14_4 rfl rfl hl4 (hs.ones 0 rfl rfl) rfl (fun w hs => ?_)
      refine WL.storeAll (vs := [.int .i64 0, .int .i64 0, .int .i64 0, .int .i64 0, .int .i64 0, .int .i64 0, .int .i64 0, .slice none 0 0, .slice none 0 0, .slice none 0 0, .slice none 0 0, .bool false, .slice none 0 0, .slice none 0 0, .slice none 0 0, .slice none 0 0, .slice none 0 0, .bool false]) hs 0 rfl TI49 h14_5 rfl rfl rfl (ones_of rfl) rfl (fun w hs => ?_)
      refine WL.assign (v := .bool false) rfl ?_
      refine WL.nil ?_
      refine hK18 _ _ ?_
      refine W.ret ?_
      have hr := Option.some.inj hf; subst hr
      have hs := hs.add (it := vl t_api_Message (⟨0, 0, 0, (⟨0, 0⟩ : api_AccessID), 0, 0, (⟨[], []⟩ : api_Certificate), (⟨[], []⟩ : api_Certificate), false, (⟨[], []⟩ : api_Certificate), [], [], [], false⟩ : api_Message) (.agg [.int .i64 0, .int .i64 0, .int .i64 0, .int .i64 0, .int .i64 0, .int .i64 0, .int .i64 0, .slice none 0 0, .slice none 0 0, .slice none 0 0, .slice none 0 0, .bool false, .slice none 0 0, .slice none 0 0, .slice none 0 0, .slice none 0 0, .slice none 0 0, .bool false].toArray)) fun ok hA => V_agg (show t_api_Message.R ok _ _ _ from ⟨[.int .i64 0], [.int .i64 0, .int .i64 0, .int .i64 0, .int .i64 0, .int .i64 0, .int .i64 0, .slice none 0 0, .slice none 0 0, .slice none 0 0, .slice none 0 0, .bool false, .slice none 0 0, .slice none 0 0, .slice none 0 0, .slice none 0 0, .slice none 0 0, .bool false], rfl, rfl, ⟨[.int .i64 0], [.int .i64 0, .int .i64 0, .int .i64 0, .int .i64 0, .int .i64 0, .slice none 0 0, .slice none 0 0, .slice none 0 0, .slice none 0 0, .bool false, .slice none 0 0, .slice none 0 0, .slice none 0 0, .slice none 0 0, .slice none 0 0, .bool false], rfl, rfl, ⟨[.int .i64 0], [.int .i64 0, .int .i64 0, .int .i64 0, .int .i64 0, .slice none 0 0, .slice none 0 0, .slice none 0 0, .slice none 0 0, .bool false, .slice none 0 0, .slice none 0 0, .slice none 0 0, .slice none 0 0, .slice none 0 0, .bool false], rfl, rfl, ⟨[.int .i64 0, .int .i64 0], [.int .i64 0, .int .i64 0, .slice none 0 0, .slice none 0 0, .slice none 0 0, .slice none 0 0, .bool false, .slice none 0 0, .slice none 0 0, .slice none 0 0, .slice none 0 0, .slice none 0 0, .bool false], rfl, ⟨[.int .i64 0], [.int .i64 0], rfl, rfl, rfl⟩, ⟨[.int .i64 0], [.int .i64 0, .slice none 0 0, .slice none 0 0, .slice none 0 0, .slice none 0 0, .bool false, .slice none 0 0, .slice none 0 0, .slice none 0 0, .slice none 0 0, .slice none 0 0, .bool false], rfl, rfl, ⟨[.int .i64 0], [.slice none 0 0, .slice none 0 0, .slice none 0 0, .slice none 0 0, .bool false, .slice none 0 0, .slice none 0 0, .slice none 0 0, .slice none 0 0, .slice none 0 0, .bool false], rfl, rfl, ⟨[.slice none 0 0, .slice none 0 0], [.slice none 0 0, .slice none 0 0, .bool false, .slice none 0 0, .slice none 0 0, .slice none 0 0, .slice none 0 0, .slice none 0 0, .bool false], rfl, ⟨[.slice none 0 0], [.slice none 0 0], rfl, R_nil, R_nil⟩, ⟨[.slice none 0 0, .slice none 0 0], [.bool false, .slice none 0 0, .slice none 0 0, .slice none 0 0, .slice none 0 0, .slice none 0 0, .bool false], rfl, ⟨[.slice none 0 0], [.slice none 0 0], rfl, R_nil, R_nil⟩, ⟨[.bool false], [.slice none 0 0, .slice none 0 0, .slice none 0 0, .slice none 0 0, .slice none 0 0, .bool false], rfl, rfl, ⟨[.slice none 0 0, .slice none 0 0], [.slice none 0 0, .slice none 0 0, .slice none 0 0, .bool false], rfl, ⟨[.slice none 0 0], [.slice none 0 0], rfl, R_nil, R_nil⟩, ⟨[.slice none 0 0], [.slice none 0 0, .slice none 0 0, .bool false], rfl, R_nil, ⟨[.slice none 0 0], [.slice none 0 0, .bool false], rfl, R_nil, ⟨[.slice none 0 0], [.bool false], rfl, R_nil, rfl⟩⟩⟩⟩⟩⟩⟩⟩⟩⟩⟩⟩⟩) rfl
      exact ⟨_, resOk_three rfl (res_all hs 1 rfl TI27 h14_4 hl4) (res_all hs 0 rfl TI49 h14_5 rfl) rfl, (cs3, [.int .i64 0, .int .i64 0, .int .i64 0, .int .i64 0, .int .i64 0, .int .i64 0, .int .i64 0, .slice none 0 0, .slice none 0 0, .slice none 0 0, .slice none 0 0, .bool false, .slice none 0 0, .slice none 0 0, .slice none 0 0, .slice none 0 0, .slice none 0 0, .bool false]), rfl, (hs.mask []).pick [1, 0]⟩
    · refine W.cond_false (bool_tr h14_30 hc17) ?_
      refine W.skip ?_
      refine hK12 _ _ ?_
      refine W.seqK fun K19 hK19 => ?_
      obtain ⟨x20, hxx20, hf⟩ := bindE hf
      obtain ⟨x26, hxx26, hf⟩ := bindE hf
      have hs := hs.front 1 rfl
      refine W.any (by kernel_rfl) 10 2 [true, true, true, true, true, true, true, true, true, true, false, false] rfl rfl (poAt [pv (.agg cs3.toArray), pv (.int .i64 x11), pq (fun y : List Value => .agg y.toArray) (fun v => [vl t_network_Network x20 v]) (fun v => []), pv (.pointer (some ⟨g7, 1, none⟩)), pq (fun y : (Option Addr × Nat) => .slice y.1 (x1.Packets).length y.2) (fun v => [vl (tSlice t_network_Packet) x1.Packets v]) (fun v => []), pv (.int .i64 x11), pq (fun y : Addr => .pointer (some y)) (fun v => [pl t_network_Packet x26 (adOf v)]) (fun v => []), pq (fun y : Addr => .pointer (some y)) (fun v => [pl t_api_Message x26.Message (adOf v)]) (fun v => []), pq (fun y : List Value => .agg y.toArray) (fun v => [vl t_api_Message x26.Message v]) (fun v => []), pw (blk g8 27 [.int .i64 0, .slice none 0 0, .slice none 0 0]) (tbx t_network_Network x20 g8 27)]) (Λ := [blk g9 49 [.int .i64 0, .int .i64 0, .int .i64 0, .int .i64 0, .int .i64 0, .int .i64 0, .int .i64 0, .slice none 0 0, .slice none 0 0, .slice none 0 0, .slice none 0 0, .bool false, .slice none 0 0, .slice none 0 0, .slice none 0 0, .slice none 0 0, .slice none 0 0, .bool false], blk g7 27 cs3]) hs (by kernel_rfl) (by kernel_rfl) (by kernel_rfl) ⟨⟨⟨⟨⟨⟨⟨⟨⟨⟨trivial, ?_⟩, ?_⟩, ?_⟩, ?_⟩, ?_⟩, ?_⟩, ?_⟩, ?_⟩, ?_⟩, ?_⟩ ?_
      · intro ρ w Γx Λx hs hu hp
        refine WL.loadAll hs (Λx.length + 1) (getApp rfl) TI27 ((hu 2 rfl).trans h14_2) hl4 ?_
        exact WL.nil ⟨rfl, _, rfl, rfl, hs.cutG 0 0⟩
      · intro ρ w Γx Λx hs hu hp
        refine WL.move (v := .int .i64 x11) ((hu 7 rfl).trans h14_7) ?_
        exact WL.nil ⟨rfl, _, rfl, rfl, hs.cutG 0 0⟩
      · intro ρ w Γx Λx hs hu hp
        have e32 : ρ 33 = .agg cs3.toArray := (hp 0 rfl).1
        have e33 : ρ 34 = .int .i64 x11 := (hp 1 rfl).1
        refine WL.call (vs := [.agg cs3.toArray, .int .i64 x11]) hs FN53 ⟨e32, ⟨e33, trivial⟩⟩ (fun ok hA => esref36_without.callc (x1 := x1) (x5 := x11) hxx20 (hA.get (Γx.length + 0) (getApp rfl))) ?_
        rintro cs21 w hs
        have hl22 := hs.agglen (n := 3) 0 rfl rfl rfl
        have hs := hs.add (it := vl t_network_Network x20 (.agg cs21.toArray)) fun ok hA => hA.get 0 rfl
        exact WL.nil ⟨rfl, _, rfl, ⟨cs21, rfl⟩, hs.cutG 1 1⟩
      · intro ρ w Γx Λx hs hu hp
        refine WL.fieldAddr (m := 1) ((hu 2 rfl).trans h14_2) FA27_1 rfl ?_
        exact WL.nil ⟨rfl, _, rfl, rfl, hs.cutG 0 0⟩
      · intro ρ w Γx Λx hs hu hp
        have e34 : ρ 36 = .pointer (some ⟨g7, 1, none⟩) := (hp 3 rfl).1
        refine WL.loadF (z := x1.Packets) F_network_Network_Packets hs (Λx.length + 1) (getApp rfl) (Γx.length + 0) (getApp rfl) rfl TI25 (.inr rfl) e34 rfl (fun v23 hs => ?_)
        obtain ⟨a24, c25, rfl⟩ := hs.slice 0 rfl
        have hs := hs.add (it := vl (tSlice t_network_Packet) x1.Packets (.slice a24 (x1.Packets).length c25)) fun ok hA => hA.get 0 rfl
        exact WL.nil ⟨rfl, _, rfl, ⟨(a24, c25), rfl⟩, hs.cutG 1 1⟩
      · intro ρ w Γx Λx hs hu hp
        refine WL.move (v := .int .i64 x11) ((hu 7 rfl).trans h14_7) ?_
        exact WL.nil ⟨rfl, _, rfl, rfl, hs.cutG 0 0⟩
      · intro ρ w Γx Λx hs hu hp
        obtain ⟨⟨⟨a35, c36⟩, e37r⟩, hm38⟩ := hp 4 rfl
        have e37 : ρ 37 = .slice a35 (x1.Packets).length c36 := e37r
        rw [e37r] at hm38
        have hs := hs.memo1 (it := vl (tSlice t_network_Packet) x1.Packets (.slice a35 (x1.Packets).length c36)) (List.mem_append.2 (.inl (hm38 _ (List.mem_of_getElem? (i := 0) rfl))))
        have e39 : ρ 38 = .int .i64 x11 := (hp 5 rfl).1
        refine WL.indexAddr hs 0 rfl UN25 TI51 e37 e39 hxx26 (fun ad27 hs => ?_)
        have hs := hs.add (it := pl t_network_Packet x26 ad27) fun ok hA => hA.get 0 rfl
        exact WL.nil ⟨rfl, _, rfl, ⟨ad27, rfl⟩, hs.cutG 1 2⟩
      · intro ρ w Γx Λx hs hu hp
        obtain ⟨⟨ad40, e41r⟩, hm42⟩ := hp 6 rfl
        have e41 : ρ 39 = .pointer (some ad40) := e41r
        rw [e41r] at hm42
        have hs := hs.memo1 (it := pl t_network_Packet x26 ad40) (List.mem_append.2 (.inl (hm42 _ (List.mem_of_getElem? (i := 0) rfl))))
        refine WL.fieldAddrP (z := x26.Message) F_network_Packet_Message hs 0 rfl e41 FA51_1 rfl (fun ad28 hs => ?_)
        have hs := hs.add (it := pl t_api_Message x26.Message ad28) fun ok hA => hA.get 0 rfl
        exact WL.nil ⟨rfl, _, rfl, ⟨ad28, rfl⟩, hs.cutG 1 2⟩
      · intro ρ w Γx Λx hs hu hp
        obtain ⟨⟨ad43, e44r⟩, hm45⟩ := hp 7 rfl
        have e44 : ρ 40 = .pointer (some ad43) := e44r
        rw [e44r] at hm45
        have hs := hs.memo1 (it := pl t_api_Message x26.Message ad43) (List.mem_append.2 (.inl (hm45 _ (List.mem_of_getElem? (i := 0) rfl))))
        refine WL.loadP hs 0 rfl TI49 (.inl rfl) e44 (fun v29 hs => ?_)
        obtain ⟨cs30, hl31, rfl⟩ := hs.aggv (n := 18) 0 rfl rfl rfl
        have hs := hs.add (it := vl t_api_Message x26.Message (.agg cs30.toArray)) fun ok hA => hA.get 0 rfl
        exact WL.nil ⟨rfl, _, rfl, ⟨cs30, rfl⟩, hs.cutG 1 2⟩
      · intro ρ w Γx Λx hs hu hp
        have hs : St ok (bz w0) w (Γx ++ [vl t_network_Network x1 (.agg cs3.toArray)]) (Λx ++ ([blk g8 27 [.int .i64 0, .slice none 0 0, .slice none 0 0]] ++ [blk g9 49 [.int .i64 0, .int .i64 0, .int .i64 0, .int .i64 0, .int .i64 0, .int .i64 0, .int .i64 0, .slice none 0 0, .slice none 0 0, .slice none 0 0, .slice none 0 0, .bool false, .slice none 0 0, .slice none 0 0, .slice none 0 0, .slice none 0 0, .slice none 0 0, .bool false], blk g7 27 cs3])) := hs
        obtain ⟨⟨cs46, e48r⟩, hm49⟩ := hp 2 rfl
        have e48 : ρ 35 = .agg cs46.toArray := e48r
        rw [e48r] at hm49
        have hs := hs.memo1 (it := vl t_network_Network x20 (.agg cs46.toArray)) (List.mem_append.2 (.inl (hm49 _ (List.mem_of_getElem? (i := 0) rfl))))
        have hl47 := hs.agglen (n := 3) 0 rfl rfl rfl
        refine WL.storeAll (vs := cs46) hs (Λx.length + 0) (getApp rfl) TI27 ((hu 4 rfl).trans h14_4) e48 rfl hl47 (hs.ones 0 rfl rfl) rfl (fun w hs => ?_)
        have hs := hs.backP
        have hs := hs.toT (A := t_network_Network) 0 rfl fun ok hA => (R_agg (hA.get 0 rfl) rfl)
        exact WL.nil ⟨rfl, _, rfl, trivial, hs.cutG 0 1⟩
      · intro ρ w hs hu50 hp
        obtain ⟨⟨⟨⟨⟨⟨⟨⟨⟨⟨_, hp0_⟩, hp1_⟩, hp2_⟩, hp3_⟩, hp4_⟩, hp5_⟩, hp6_⟩, hp7_⟩, hp8_⟩, hp9_⟩ := hp
        have hs : St ok (bz w0) w [vl t_api_Message x26.Message (ρ 41), pl t_api_Message x26.Message (adOf (ρ 40)), pl t_network_Packet x26 (adOf (ρ 39)), vl (tSlice t_network_Packet) x1.Packets (ρ 37), vl t_network_Network x20 (ρ 35), vl t_network_Network x1 (.agg cs3.toArray)] [tbx t_network_Network x20 g8 27, blk g9 49 [.int .i64 0, .int .i64 0, .int .i64 0, .int .i64 0, .int .i64 0, .int .i64 0, .int .i64 0, .slice none 0 0, .slice none 0 0, .slice none 0 0, .slice none 0 0, .bool false, .slice none 0 0, .slice none 0 0, .slice none 0 0, .slice none 0 0, .slice none 0 0, .bool false], blk g7 27 cs3] := hs
        obtain ⟨cs51, e53⟩ := hp8_
        have e53 : ρ 41 = .agg cs51.toArray := e53
        try rw [e53] at hs
        obtain ⟨ad54, e55⟩ := hp7_
        have e55 : ρ 40 = .pointer (some ad54) := e55
        try rw [e55] at hs
        obtain ⟨ad56, e57⟩ := hp6_
        have e57 : ρ 39 = .pointer (some ad56) := e57
        try rw [e57] at hs
        have e58 : ρ 38 = .int .i64 x11 := hp5_
        obtain ⟨⟨a59, c60⟩, e61⟩ := hp4_
        have e61 : ρ 37 = .slice a59 (x1.Packets).length c60 := e61
        try rw [e61] at hs
        have e62 : ρ 36 = .pointer (some ⟨g7, 1, none⟩) := hp3_
        obtain ⟨cs63, e65⟩ := hp2_
        have e65 : ρ 35 = .agg cs63.toArray := e65
        try rw [e65] at hs
        have e66 : ρ 34 = .int .i64 x11 := hp1_
        have e67 : ρ 33 = .agg cs3.toArray := hp0_
        have hl64 := hs.agglen (n := 3) 4 rfl rfl rfl
        have hl52 := hs.agglen (n := 18) 0 rfl rfl rfl
        obtain ⟨cs68, hl69, hs⟩ := hs.ofT (n := 3) 0 rfl rfl rfl
        refine WA.step [10] (by kernel_rfl) (by simp) ⟨?_, trivial⟩
        refine WL.storeAll (vs := cs51) hs 1 rfl TI49 ((hu50 5 rfl).trans h14_5) e53 rfl hl52 (hs.ones 1 rfl rfl) rfl (fun w hs => ?_)
        refine WL.nil ⟨rfl, _, rfl, ?_⟩
        refine WA.step [11] (by kernel_rfl) (by simp) ⟨?_, trivial⟩
        refine WL.assign (v := .bool true) rfl ?_
        refine WL.nil ⟨rfl, _, rfl, ?_⟩
        refine WA.done (by kernel_rfl) ?_
        refine hK19 _ _ ?_
        refine W.ret ?_
        have hr := Option.some.inj hf; subst hr
        exact ⟨_, resOk_three rfl (res_all hs 0 rfl TI27 ((hu50 4 rfl).trans h14_4) hl69) (res_all hs 1 rfl TI49 ((hu50 5 rfl).trans h14_5) hl52) rfl, (cs68, cs51), rfl, (hs.mask []).pick [0, 1]⟩
  rcases iteE hf with ⟨hc70, hf⟩ | ⟨hc70, hf⟩
  · refine W.any (by kernel_rfl) 20 0 [true, true, true, true, true, true, true, true, true, true, true, true, true, true, true, true, true, true, true, true] rfl rfl (poAt [pv (.int .i64 x11), pv (.bool (decide (x11 < 0))), pv (.bool (decide (x11 < 0))), pv (undef), pv (undef), pv (undef), pv (undef), pv (undef), pv (undef), pv (undef), pv (undef), pv (undef), pv (undef), pv (undef), pv (undef), pv (undef), pv (undef), pv (undef), pv (undef), pv (.bool true)]) (Λ := [blk g9 49 [.int .i64 0, .int .i64 0, .int .i64 0, .int .i64 0, .int .i64 0, .int .i64 0, .int .i64 0, .slice none 0 0, .slice none 0 0, .slice none 0 0, .slice none 0 0, .bool false, .slice none 0 0, .slice none 0 0, .slice none 0 0, .slice none 0 0, .slice none 0 0, .bool false], blk g8 27 [.int .i64 0, .slice none 0 0, .slice none 0 0], blk g7 27 cs3]) hs (by kernel_rfl) (by kernel_rfl) (by kernel_rfl) ⟨⟨⟨⟨⟨⟨⟨⟨⟨⟨⟨⟨⟨⟨⟨⟨⟨⟨⟨⟨trivial, ?_⟩, ?_⟩, ?_⟩, ?_⟩, ?_⟩, ?_⟩, ?_⟩, ?_⟩, ?_⟩, ?_⟩, ?_⟩, ?_⟩, ?_⟩, ?_⟩, ?_⟩, ?_⟩, ?_⟩, ?_⟩, ?_⟩, ?_⟩ ?_
    · intro ρ w Γx Λx hs hu hp
      refine WL.move (v := .int .i64 x11) (hu 7 rfl) ?_
      exact WL.nil ⟨rfl, _, rfl, rfl, hs.cutG 0 0⟩
    · intro ρ w Γx Λx hs hu hp
      have e71 : ρ 11 = .int .i64 x11 := (hp 0 rfl).1
      refine WL.bin (v := .bool (decide (x11 < 0))) e71 rfl (ib_lss _ _ _) ?_
      exact WL.nil ⟨rfl, _, rfl, rfl, hs.cutG 0 0⟩
    · intro ρ w Γx Λx hs hu hp
      have e72 : ρ 12 = .bool (decide (x11 < 0)) := (hp 1 rfl).1
      refine WL.move (v := .bool (decide (x11 < 0))) e72 ?_
      exact WL.nil ⟨rfl, _, rfl, rfl, hs.cutG 0 0⟩
    · intro ρ w Γx Λx hs hu hp
      have e73 : ρ 13 = .bool (decide (x11 < 0)) := (hp 2 rfl).1
      refine WL.pass ((wanted_of rfl rfl (bool_tr e73 hc70)).trans rfl) rfl ?_
      exact WL.nil ⟨rfl, _, rfl, rfl, hs.cutG 0 0⟩
    · intro ρ w Γx Λx hs hu hp
      have e74 : ρ 13 = .bool (decide (x11 < 0)) := (hp 2 rfl).1
      refine WL.pass ((wanted_of rfl rfl (bool_tr e74 hc70)).trans rfl) rfl ?_
      exact WL.nil ⟨rfl, _, rfl, rfl, hs.cutG 0 0⟩
    · intro ρ w Γx Λx hs hu hp
      have e75 : ρ 15 = undef := (hp 4 rfl).1
      have e76 : ρ 13 = .bool (decide (x11 < 0)) := (hp 2 rfl).1
      refine WL.pass ((wanted_of rfl rfl (bool_tr e76 hc70)).trans rfl) rfl ?_
      exact WL.nil ⟨rfl, _, rfl, rfl, hs.cutG 0 0⟩
    · intro ρ w Γx Λx hs hu hp
      have e77 : ρ 13 = .bool (decide (x11 < 0)) := (hp 2 rfl).1
      refine WL.pass ((wanted_of rfl rfl (bool_tr e77 hc70)).trans rfl) rfl ?_
      exact WL.nil ⟨rfl, _, rfl, rfl, hs.cutG 0 0⟩
    · intro ρ w Γx Λx hs hu hp
      have e78 : ρ 16 = undef := (hp 5 rfl).1
      have e79 : ρ 17 = undef := (hp 6 rfl).1
      have e80 : ρ 13 = .bool (decide (x11 < 0)) := (hp 2 rfl).1
      refine WL.pass ((wanted_of rfl rfl (bool_tr e80 hc70)).trans rfl) rfl ?_
      exact WL.nil ⟨rfl, _, rfl, rfl, hs.cutG 0 0⟩
    · intro ρ w Γx Λx hs hu hp
      have e81 : ρ 18 = undef := (hp 7 rfl).1
      have e82 : ρ 13 = .bool (decide (x11 < 0)) := (hp 2 rfl).1
      refine WL.pass ((wanted_of rfl rfl (bool_tr e82 hc70)).trans rfl) rfl ?_
      exact WL.nil ⟨rfl, _, rfl, rfl, hs.cutG 0 0⟩
    · intro ρ w Γx Λx hs hu hp
      have e83 : ρ 19 = undef := (hp 8 rfl).1
      have e84 : ρ 13 = .bool (decide (x11 < 0)) := (hp 2 rfl).1
      refine WL.pass ((wanted_of rfl rfl (bool_tr e84 hc70)).trans rfl) rfl ?_
      exact WL.nil ⟨rfl, _, rfl, rfl, hs.cutG 0 0⟩
    · intro ρ w Γx Λx hs hu hp
      have e85 : ρ 20 = undef := (hp 9 rfl).1
      have e86 : ρ 13 = .bool (decide (x11 < 0)) := (hp 2 rfl).1
      refine WL.pass ((wanted_of rfl rfl (bool_tr e86 hc70)).trans rfl) rfl ?_
      exact WL.nil ⟨rfl, _, rfl, rfl, hs.cutG 0 0⟩
    · intro ρ w Γx Λx hs hu hp
      have e87 : ρ 13 = .bool (decide (x11 < 0)) := (hp 2 rfl).1
      refine WL.pass ((wanted_of rfl rfl (bool_tr e87 hc70)).trans rfl) rfl ?_
      exact WL.nil ⟨rfl, _, rfl, rfl, hs.cutG 0 0⟩
    · intro ρ w Γx Λx hs hu hp
      have e88 : ρ 22 = undef := (hp 11 rfl).1
      have e89 : ρ 13 = .bool (decide (x11 < 0)) := (hp 2 rfl).1
      refine WL.pass ((wanted_of rfl rfl (bool_tr e89 hc70)).trans rfl) rfl ?_
      exact WL.nil ⟨rfl, _, rfl, rfl, hs.cutG 0 0⟩
    · intro ρ w Γx Λx hs hu hp
      have e90 : ρ 13 = .bool (decide (x11 < 0)) := (hp 2 rfl).1
      refine WL.pass ((wanted_of rfl rfl (bool_tr e90 hc70)).trans rfl) rfl ?_
      exact WL.nil ⟨rfl, _, rfl, rfl, hs.cutG 0 0⟩
    · intro ρ w Γx Λx hs hu hp
      have e91 : ρ 23 = undef := (hp 12 rfl).1
      have e92 : ρ 24 = undef := (hp 13 rfl).1
      have e93 : ρ 13 = .bool (decide (x11 < 0)) := (hp 2 rfl).1
      refine WL.pass ((wanted_of rfl rfl (bool_tr e93 hc70)).trans rfl) rfl ?_
      exact WL.nil ⟨rfl, _, rfl, rfl, hs.cutG 0 0⟩
    · intro ρ w Γx Λx hs hu hp
      have e94 : ρ 25 = undef := (hp 14 rfl).1
      have e95 : ρ 13 = .bool (decide (x11 < 0)) := (hp 2 rfl).1
      refine WL.pass ((wanted_of rfl rfl (bool_tr e95 hc70)).trans rfl) rfl ?_
      exact WL.nil ⟨rfl, _, rfl, rfl, hs.cutG 0 0⟩
    · intro ρ w Γx Λx hs hu hp
      have e96 : ρ 26 = undef := (hp 15 rfl).1
      have e97 : ρ 13 = .bool (decide (x11 < 0)) := (hp 2 rfl).1
      refine WL.pass ((wanted_of rfl rfl (bool_tr e97 hc70)).trans rfl) rfl ?_
      exact WL.nil ⟨rfl, _, rfl, rfl, hs.cutG 0 0⟩
    · intro ρ w Γx Λx hs hu hp
      have e98 : ρ 27 = undef := (hp 16 rfl).1
      have e99 : ρ 13 = .bool (decide (x11 < 0)) := (hp 2 rfl).1
      refine WL.pass ((wanted_of rfl rfl (bool_tr e99 hc70)).trans rfl) rfl ?_
      exact WL.nil ⟨rfl, _, rfl, rfl, hs.cutG 0 0⟩
    · intro ρ w Γx Λx hs hu hp
      have e100 : ρ 14 = undef := (hp 3 rfl).1
      have e101 : ρ 21 = undef := (hp 10 rfl).1
      have e102 : ρ 28 = undef := (hp 17 rfl).1
      have e103 : ρ 13 = .bool (decide (x11 < 0)) := (hp 2 rfl).1
      refine WL.pass ((wanted_of rfl rfl (bool_tr e103 hc70)).trans rfl) rfl ?_
      exact WL.nil ⟨rfl, _, rfl, rfl, hs.cutG 0 0⟩
    · intro ρ w Γx Λx hs hu hp
      have e104 : ρ 13 = .bool (decide (x11 < 0)) := (hp 2 rfl).1
      have e105 : ρ 29 = undef := (hp 18 rfl).1
      refine WL.pickT (v := .bool true) (bool_tr e104 hc70) rfl ?_
      exact WL.nil ⟨rfl, _, rfl, rfl, hs.cutG 0 0⟩
    · intro ρ w hs hu106 hp
      obtain ⟨⟨⟨⟨⟨⟨⟨⟨⟨⟨⟨⟨⟨⟨⟨⟨⟨⟨⟨⟨_, hp0_⟩, hp1_⟩, hp2_⟩, hp3_⟩, hp4_⟩, hp5_⟩, hp6_⟩, hp7_⟩, hp8_⟩, hp9_⟩, hp10_⟩, hp11_⟩, hp12_⟩, hp13_⟩, hp14_⟩, hp15_⟩, hp16_⟩, hp17_⟩, hp18_⟩, hp19_⟩ := hp
      have hs : St ok (bz w0) w [vl t_network_Network x1 (.agg cs3.toArray)] [blk g9 49 [.int .i64 0, .int .i64 0, .int .i64 0, .int .i64 0, .int .i64 0, .int .i64 0, .int .i64 0, .slice none 0 0, .slice none 0 0, .slice none 0 0, .slice none 0 0, .bool false, .slice none 0 0, .slice none 0 0, .slice none 0 0, .slice none 0 0, .slice none 0 0, .bool false], blk g8 27 [.int .i64 0, .slice none 0 0, .slice none 0 0], blk g7 27 cs3] := hs
      have e107 : ρ 30 = .bool true := hp19_
      have e108 : ρ 29 = undef := hp18_
      have e109 : ρ 28 = undef := hp17_
      have e110 : ρ 27 = undef := hp16_
      have e111 : ρ 26 = undef := hp15_
      have e112 : ρ 25 = undef := hp14_
      have e113 : ρ 24 = undef := hp13_
      have e114 : ρ 23 = undef := hp12_
      have e115 : ρ 22 = undef := hp11_
      have e116 : ρ 21 = undef := hp10_
      have e117 : ρ 20 = undef := hp9_
      have e118 : ρ 19 = undef := hp8_
      have e119 : ρ 18 = undef := hp7_
      have e120 : ρ 17 = undef := hp6_
      have e121 : ρ 16 = undef := hp5_
      have e122 : ρ 15 = undef := hp4_
      have e123 : ρ 14 = undef := hp3_
      have e124 : ρ 13 = .bool (decide (x11 < 0)) := hp2_
      have e125 : ρ 12 = .bool (decide (x11 < 0)) := hp1_
      have e126 : ρ 11 = .int .i64 x11 := hp0_
      refine WA.done (by kernel_rfl) ?_
      exact Jk16 true _ _ (hu106 2 rfl) (hu106 4 rfl) (hu106 5 rfl) (hu106 7 rfl) e107 ((hs.mask [true, true, true]).pick [0]) hf
  · obtain ⟨x130, hxx130, hf⟩ := bindE hf
    obtain ⟨x138, hxx138, hf⟩ := bindE hf
    obtain ⟨x143, hxx143, hf⟩ := bindE hf
    refine W.any (by kernel_rfl) 20 0 [true, true, true, true, true, true, true, true, true, true, true, true, true, true, true, true, true, true, true, true] rfl rfl (poAt [pv (.int .i64 x11), pv (.bool (decide (x11 < 0))), pv (.bool (decide (x11 < 0))), pv (.agg cs3.toArray), pv (.pointer (some ⟨g7, 1, none⟩)), pq (fun y : (Option Addr × Nat) => .slice y.1 (x1.Packets).length y.2) (fun v => [vl (tSlice t_network_Packet) x1.Packets v]) (fun v => []), pv (.int .i64 x11), pq (fun y : Addr => .pointer (some y)) (fun v => [pl t_network_Packet x130 (adOf v)]) (fun v => []), pq (fun y : Addr => .pointer (some y)) (fun v => [pl t_api_Message x130.Message (adOf v)]) (fun v => []), pq (fun y : Addr => .pointer (some y)) (fun v => [pl (tInt .i64) x130.Message.From (adOf v)]) (fun v => []), pv (.int .i64 x130.Message.From), pv (.pointer (some ⟨g7, 1, none⟩)), pq (fun y : (Option Addr × Nat) => .slice y.1 (x1.Packets).length y.2) (fun v => [vl (tSlice t_network_Packet) x1.Packets v]) (fun v => []), pv (.int .i64 x11), pq (fun y : Addr => .pointer (some y)) (fun v => [pl t_network_Packet x138 (adOf v)]) (fun v => []), pq (fun y : Addr => .pointer (some y)) (fun v => [pl t_api_Message x138.Message (adOf v)]) (fun v => []), pq (fun y : Addr => .pointer (some y)) (fun v => [pl (tInt .i64) x138.Message.To (adOf v)]) (fun v => []), pv (.int .i64 x138.Message.To), pv (.bool x143), pv (.bool x143)]) (Λ := [blk g9 49 [.int .i64 0, .int .i64 0, .int .i64 0, .int .i64 0, .int .i64 0, .int .i64 0, .int .i64 0, .slice none 0 0, .slice none 0 0, .slice none 0 0, .slice none 0 0, .bool false, .slice none 0 0, .slice none 0 0, .slice none 0 0, .slice none 0 0, .slice none 0 0, .bool false], blk g8 27 [.int .i64 0, .slice none 0 0, .slice none 0 0], blk g7 27 cs3]) hs (by kernel_rfl) (by kernel_rfl) (by kernel_rfl) ⟨⟨⟨⟨⟨⟨⟨⟨⟨⟨⟨⟨⟨⟨⟨⟨⟨⟨⟨⟨trivial, ?_⟩, ?_⟩, ?_⟩, ?_⟩, ?_⟩, ?_⟩, ?_⟩, ?_⟩, ?_⟩, ?_⟩, ?_⟩, ?_⟩, ?_⟩, ?_⟩, ?_⟩, ?_⟩, ?_⟩, ?_⟩, ?_⟩, ?_⟩ ?_
    · intro ρ w Γx Λx hs hu hp
      refine WL.move (v := .int .i64 x11) (hu 7 rfl) ?_
      exact WL.nil ⟨rfl, _, rfl, rfl, hs.cutG 0 0⟩
    · intro ρ w Γx Λx hs hu hp
      have e144 : ρ 11 = .int .i64 x11 := (hp 0 rfl).1
      refine WL.bin (v := .bool (decide (x11 < 0))) e144 rfl (ib_lss _ _ _) ?_
      exact WL.nil ⟨rfl, _, rfl, rfl, hs.cutG 0 0⟩
    · intro ρ w Γx Λx hs hu hp
      have e145 : ρ 12 = .bool (decide (x11 < 0)) := (hp 1 rfl).1
      refine WL.move (v := .bool (decide (x11 < 0))) e145 ?_
      exact WL.nil ⟨rfl, _, rfl, rfl, hs.cutG 0 0⟩
    · intro ρ w Γx Λx hs hu hp
      have e146 : ρ 13 = .bool (decide (x11 < 0)) := (hp 2 rfl).1
      refine WL.loadAll hs (Λx.length + 2) (getApp rfl) TI27 (hu 2 rfl) hl4 ?_ (hg := (wanted_of rfl rfl (bool_tr e146 hc70)).trans rfl)
      exact WL.nil ⟨rfl, _, rfl, rfl, hs.cutG 0 0⟩
    · intro ρ w Γx Λx hs hu hp
      have e147 : ρ 13 = .bool (decide (x11 < 0)) := (hp 2 rfl).1
      refine WL.fieldAddr (m := 1) (hu 2 rfl) FA27_1 rfl ?_ (hg := (wanted_of rfl rfl (bool_tr e147 hc70)).trans rfl)
      exact WL.nil ⟨rfl, _, rfl, rfl, hs.cutG 0 0⟩
    · intro ρ w Γx Λx hs hu hp
      have e148 : ρ 15 = .pointer (some ⟨g7, 1, none⟩) := (hp 4 rfl).1
      have e149 : ρ 13 = .bool (decide (x11 < 0)) := (hp 2 rfl).1
      refine WL.loadF (z := x1.Packets) F_network_Network_Packets hs (Λx.length + 2) (getApp rfl) (Γx.length + 0) (getApp rfl) rfl TI25 (.inr rfl) e148 rfl (fun v127 hs => ?_) (hg := (wanted_of rfl rfl (bool_tr e149 hc70)).trans rfl)
      obtain ⟨a128, c129, rfl⟩ := hs.slice 0 rfl
      have hs := hs.add (it := vl (tSlice t_network_Packet) x1.Packets (.slice a128 (x1.Packets).length c129)) fun ok hA => hA.get 0 rfl
      exact WL.nil ⟨rfl, _, rfl, ⟨(a128, c129), rfl⟩, hs.cutG 1 1⟩
    · intro ρ w Γx Λx hs hu hp
      have e150 : ρ 13 = .bool (decide (x11 < 0)) := (hp 2 rfl).1
      refine WL.move (v := .int .i64 x11) (hu 7 rfl) ?_ (hg := (wanted_of rfl rfl (bool_tr e150 hc70)).trans rfl)
      exact WL.nil ⟨rfl, _, rfl, rfl, hs.cutG 0 0⟩
    · intro ρ w Γx Λx hs hu hp
      obtain ⟨⟨⟨a151, c152⟩, e153r⟩, hm154⟩ := hp 5 rfl
      have e153 : ρ 16 = .slice a151 (x1.Packets).length c152 := e153r
      rw [e153r] at hm154
      have hs := hs.memo1 (it := vl (tSlice t_network_Packet) x1.Packets (.slice a151 (x1.Packets).length c152)) (List.mem_append.2 (.inl (hm154 _ (List.mem_of_getElem? (i := 0) rfl))))
      have e155 : ρ 17 = .int .i64 x11 := (hp 6 rfl).1
      have e156 : ρ 13 = .bool (decide (x11 < 0)) := (hp 2 rfl).1
      refine WL.indexAddr hs 0 rfl UN25 TI51 e153 e155 hxx130 (fun ad131 hs => ?_) (hg := (wanted_of rfl rfl (bool_tr e156 hc70)).trans rfl)
      have hs := hs.add (it := pl t_network_Packet x130 ad131) fun ok hA => hA.get 0 rfl
      exact WL.nil ⟨rfl, _, rfl, ⟨ad131, rfl⟩, hs.cutG 1 2⟩
    · intro ρ w Γx Λx hs hu hp
      obtain ⟨⟨ad157, e158r⟩, hm159⟩ := hp 7 rfl
      have e158 : ρ 18 = .pointer (some ad157) := e158r
      rw [e158r] at hm159
      have hs := hs.memo1 (it := pl t_network_Packet x130 ad157) (List.mem_append.2 (.inl (hm159 _ (List.mem_of_getElem? (i := 0) rfl))))
      have e160 : ρ 13 = .bool (decide (x11 < 0)) := (hp 2 rfl).1
      refine WL.fieldAddrP (z := x130.Message) F_network_Packet_Message hs 0 rfl e158 FA51_1 rfl (fun ad132 hs => ?_) (hg := (wanted_of rfl rfl (bool_tr e160 hc70)).trans rfl)
      have hs := hs.add (it := pl t_api_Message x130.Message ad132) fun ok hA => hA.get 0 rfl
      exact WL.nil ⟨rfl, _, rfl, ⟨ad132, rfl⟩, hs.cutG 1 2⟩
    · intro ρ w Γx Λx hs hu hp
      obtain ⟨⟨ad161, e162r⟩, hm163⟩ := hp 8 rfl
      have e162 : ρ 19 = .pointer (some ad161) := e162r
      rw [e162r] at hm163
      have hs := hs.memo1 (it := pl t_api_Message x130.Message ad161) (List.mem_append.2 (.inl (hm163 _ (List.mem_of_getElem? (i := 0) rfl))))
      have e164 : ρ 13 = .bool (decide (x11 < 0)) := (hp 2 rfl).1
      refine WL.fieldAddrP (z := x130.Message.From) F_api_Message_From hs 0 rfl e162 FA49_1 rfl (fun ad133 hs => ?_) (hg := (wanted_of rfl rfl (bool_tr e164 hc70)).trans rfl)
      have hs := hs.add (it := pl (tInt .i64) x130.Message.From ad133) fun ok hA => hA.get 0 rfl
      exact WL.nil ⟨rfl, _, rfl, ⟨ad133, rfl⟩, hs.cutG 1 2⟩
    · intro ρ w Γx Λx hs hu hp
      obtain ⟨⟨ad165, e166r⟩, hm167⟩ := hp 9 rfl
      have e166 : ρ 20 = .pointer (some ad165) := e166r
      rw [e166r] at hm167
      have hs := hs.memo1 (it := pl (tInt .i64) x130.Message.From ad165) (List.mem_append.2 (.inl (hm167 _ (List.mem_of_getElem? (i := 0) rfl))))
      have e168 : ρ 13 = .bool (decide (x11 < 0)) := (hp 2 rfl).1
      refine WL.loadP hs 0 rfl TI3 (.inr rfl) e166 (fun v134 hs => ?_) (hg := (wanted_of rfl rfl (bool_tr e168 hc70)).trans rfl)
      obtain rfl := hs.int 0 rfl
      exact WL.nil ⟨rfl, _, rfl, rfl, hs.cutG 0 2⟩
    · intro ρ w Γx Λx hs hu hp
      have e169 : ρ 13 = .bool (decide (x11 < 0)) := (hp 2 rfl).1
      refine WL.fieldAddr (m := 1) (hu 2 rfl) FA27_1 rfl ?_ (hg := (wanted_of rfl rfl (bool_tr e169 hc70)).trans rfl)
      exact WL.nil ⟨rfl, _, rfl, rfl, hs.cutG 0 0⟩
    · intro ρ w Γx Λx hs hu hp
      have e170 : ρ 22 = .pointer (some ⟨g7, 1, none⟩) := (hp 11 rfl).1
      have e171 : ρ 13 = .bool (decide (x11 < 0)) := (hp 2 rfl).1
      refine WL.loadF (z := x1.Packets) F_network_Network_Packets hs (Λx.length + 2) (getApp rfl) (Γx.length + 0) (getApp rfl) rfl TI25 (.inr rfl) e170 rfl (fun v135 hs => ?_) (hg := (wanted_of rfl rfl (bool_tr e171 hc70)).trans rfl)
      obtain ⟨a136, c137, rfl⟩ := hs.slice 0 rfl
      have hs := hs.add (it := vl (tSlice t_network_Packet) x1.Packets (.slice a136 (x1.Packets).length c137)) fun ok hA => hA.get 0 rfl
      exact WL.nil ⟨rfl, _, rfl, ⟨(a136, c137), rfl⟩, hs.cutG 1 1⟩
    · intro ρ w Γx Λx hs hu hp
      have e172 : ρ 13 = .bool (decide (x11 < 0)) := (hp 2 rfl).1
      refine WL.move (v := .int .i64 x11) (hu 7 rfl) ?_ (hg := (wanted_of rfl rfl (bool_tr e172 hc70)).trans rfl)
      exact WL.nil ⟨rfl, _, rfl, rfl, hs.cutG 0 0⟩
    · intro ρ w Γx Λx hs hu hp
      obtain ⟨⟨⟨a173, c174⟩, e175r⟩, hm176⟩ := hp 12 rfl
      have e175 : ρ 23 = .slice a173 (x1.Packets).length c174 := e175r
      rw [e175r] at hm176
      have hs := hs.memo1 (it := vl (tSlice t_network_Packet) x1.Packets (.slice a173 (x1.Packets).length c174)) (List.mem_append.2 (.inl (hm176 _ (List.mem_of_getElem? (i := 0) rfl))))
      have e177 : ρ 24 = .int .i64 x11 := (hp 13 rfl).1
      have e178 : ρ 13 = .bool (decide (x11 < 0)) := (hp 2 rfl).1
      refine WL.indexAddr hs 0 rfl UN25 TI51 e175 e177 hxx138 (fun ad139 hs => ?_) (hg := (wanted_of rfl rfl (bool_tr e178 hc70)).trans rfl)
      have hs := hs.add (it := pl t_network_Packet x138 ad139) fun ok hA => hA.get 0 rfl
      exact WL.nil ⟨rfl, _, rfl, ⟨ad139, rfl⟩, hs.cutG 1 2⟩
    · intro ρ w Γx Λx hs hu hp
      obtain ⟨⟨ad179, e180r⟩, hm181⟩ := hp 14 rfl
      have e180 : ρ 25 = .pointer (some ad179) := e180r
      rw [e180r] at hm181
      have hs := hs.memo1 (it := pl t_network_Packet x138 ad179) (List.mem_append.2 (.inl (hm181 _ (List.mem_of_getElem? (i := 0) rfl))))
      have e182 : ρ 13 = .bool (decide (x11 < 0)) := (hp 2 rfl).1
      refine WL.fieldAddrP (z := x138.Message) F_network_Packet_Message hs 0 rfl e180 FA51_1 rfl (fun ad140 hs => ?_) (hg := (wanted_of rfl rfl (bool_tr e182 hc70)).trans rfl)
      have hs := hs.add (it := pl t_api_Message x138.Message ad140) fun ok hA => hA.get 0 rfl
      exact WL.nil ⟨rfl, _, rfl, ⟨ad140, rfl⟩, hs.cutG 1 2⟩
    · intro ρ w Γx Λx hs hu hp
      obtain ⟨⟨ad183, e184r⟩, hm185⟩ := hp 15 rfl
      have e184 : ρ 26 = .pointer (some ad183) := e184r
      rw [e184r] at hm185
      have hs := hs.memo1 (it := pl t_api_Message x138.Message ad183) (List.mem_append.2 (.inl (hm185 _ (List.mem_of_getElem? (i := 0) rfl))))
      have e186 : ρ 13 = .bool (decide (x11 < 0)) := (hp 2 rfl).1
      refine WL.fieldAddrP (z := x138.Message.To) F_api_Message_To hs 0 rfl e184 FA49_2 rfl (fun ad141 hs => ?_) (hg := (wanted_of rfl rfl (bool_tr e186 hc70)).trans rfl)
      have hs := hs.add (it := pl (tInt .i64) x138.Message.To ad141) fun ok hA => hA.get 0 rfl
      exact WL.nil ⟨rfl, _, rfl, ⟨ad141, rfl⟩, hs.cutG 1 2⟩
    · intro ρ w Γx Λx hs hu hp
      obtain ⟨⟨ad187, e188r⟩, hm189⟩ := hp 16 rfl
      have e188 : ρ 27 = .pointer (some ad187) := e188r
      rw [e188r] at hm189
      have hs := hs.memo1 (it := pl (tInt .i64) x138.Message.To ad187) (List.mem_append.2 (.inl (hm189 _ (List.mem_of_getElem? (i := 0) rfl))))
      have e190 : ρ 13 = .bool (decide (x11 < 0)) := (hp 2 rfl).1
      refine WL.loadP hs 0 rfl TI3 (.inr rfl) e188 (fun v142 hs => ?_) (hg := (wanted_of rfl rfl (bool_tr e190 hc70)).trans rfl)
      obtain rfl := hs.int 0 rfl
      exact WL.nil ⟨rfl, _, rfl, rfl, hs.cutG 0 2⟩
    · intro ρ w Γx Λx hs hu hp
      have e191 : ρ 14 = .agg cs3.toArray := (hp 3 rfl).1
      have e192 : ρ 21 = .int .i64 x130.Message.From := (hp 10 rfl).1
      have e193 : ρ 28 = .int .i64 x138.Message.To := (hp 17 rfl).1
      have e194 : ρ 13 = .bool (decide (x11 < 0)) := (hp 2 rfl).1
      refine WL.call (vs := [.agg cs3.toArray, .int .i64 x130.Message.From, .int .i64 x138.Message.To]) hs FN25 ⟨e191, ⟨e192, ⟨e193, trivial⟩⟩⟩ (fun ok hA => esref36_Blocked.calls (x1 := x1) (x5 := x130.Message.From) (x6 := x138.Message.To) hxx143 (hA.get (Γx.length + 0) (getApp rfl))) ?_ (hg := (wanted_of rfl rfl (bool_tr e194 hc70)).trans rfl)
      rintro _ w hs
      exact WL.nil ⟨rfl, _, rfl, rfl, hs.cutG 0 0⟩
    · intro ρ w Γx Λx hs hu hp
      have e195 : ρ 13 = .bool (decide (x11 < 0)) := (hp 2 rfl).1
      have e196 : ρ 29 = .bool x143 := (hp 18 rfl).1
      refine WL.pickF (v := .bool x143) (bool_tr e195 hc70) e196 ?_
      exact WL.nil ⟨rfl, _, rfl, rfl, hs.cutG 0 0⟩
    · intro ρ w hs hu197 hp
      obtain ⟨⟨⟨⟨⟨⟨⟨⟨⟨⟨⟨⟨⟨⟨⟨⟨⟨⟨⟨⟨_, hp0_⟩, hp1_⟩, hp2_⟩, hp3_⟩, hp4_⟩, hp5_⟩, hp6_⟩, hp7_⟩, hp8_⟩, hp9_⟩, hp10_⟩, hp11_⟩, hp12_⟩, hp13_⟩, hp14_⟩, hp15_⟩, hp16_⟩, hp17_⟩, hp18_⟩, hp19_⟩ := hp
      have hs : St ok (bz w0) w [pl (tInt .i64) x138.Message.To (adOf (ρ 27)), pl t_api_Message x138.Message (adOf (ρ 26)), pl t_network_Packet x138 (adOf (ρ 25)), vl (tSlice t_network_Packet) x1.Packets (ρ 23), pl (tInt .i64) x130.Message.From (adOf (ρ 20)), pl t_api_Message x130.Message (adOf (ρ 19)), pl t_network_Packet x130 (adOf (ρ 18)), vl (tSlice t_network_Packet) x1.Packets (ρ 16), vl t_network_Network x1 (.agg cs3.toArray)] [blk g9 49 [.int .i64 0, .int .i64 0, .int .i64 0, .int .i64 0, .int .i64 0, .int .i64 0, .int .i64 0, .slice none 0 0, .slice none 0 0, .slice none 0 0, .slice none 0 0, .bool false, .slice none 0 0, .slice none 0 0, .slice none 0 0, .slice none 0 0, .slice none 0 0, .bool false], blk g8 27 [.int .i64 0, .slice none 0 0, .slice none 0 0], blk g7 27 cs3] := hs
      have e198 : ρ 30 = .bool x143 := hp19_
      have e199 : ρ 29 = .bool x143 := hp18_
      have e200 : ρ 28 = .int .i64 x138.Message.To := hp17_
      obtain ⟨ad201, e202⟩ := hp16_
      have e202 : ρ 27 = .pointer (some ad201) := e202
      try rw [e202] at hs
      obtain ⟨ad203, e204⟩ := hp15_
      have e204 : ρ 26 = .pointer (some ad203) := e204
      try rw [e204] at hs
      obtain ⟨ad205, e206⟩ := hp14_
      have e206 : ρ 25 = .pointer (some ad205) := e206
      try rw [e206] at hs
      have e207 : ρ 24 = .int .i64 x11 := hp13_
      obtain ⟨⟨a208, c209⟩, e210⟩ := hp12_
      have e210 : ρ 23 = .slice a208 (x1.Packets).length c209 := e210
      try rw [e210] at hs
      have e211 : ρ 22 = .pointer (some ⟨g7, 1, none⟩) := hp11_
      have e212 : ρ 21 = .int .i64 x130.Message.From := hp10_
      obtain ⟨ad213, e214⟩ := hp9_
      have e214 : ρ 20 = .pointer (some ad213) := e214
      try rw [e214] at hs
      obtain ⟨ad215, e216⟩ := hp8_
      have e216 : ρ 19 = .pointer (some ad215) := e216
      try rw [e216] at hs
      obtain ⟨ad217, e218⟩ := hp7_
      have e218 : ρ 18 = .pointer (some ad217) := e218
      try rw [e218] at hs
      have e219 : ρ 17 = .int .i64 x11 := hp6_
      obtain ⟨⟨a220, c221⟩, e222⟩ := hp5_
      have e222 : ρ 16 = .slice a220 (x1.Packets).length c221 := e222
      try rw [e222] at hs
      have e223 : ρ 15 = .pointer (some ⟨g7, 1, none⟩) := hp4_
      have e224 : ρ 14 = .agg cs3.toArray := hp3_
      have e225 : ρ 13 = .bool (decide (x11 < 0)) := hp2_
      have e226 : ρ 12 = .bool (decide (x11 < 0)) := hp1_
      have e227 : ρ 11 = .int .i64 x11 := hp0_
      refine WA.done (by kernel_rfl) ?_
      exact Jk16 x143 _ _ (hu197 2 rfl) (hu197 4 rfl) (hu197 5 rfl) (hu197 7 rfl) e198 ((hs.mask [true, true, true]).pick [8]) hf
/-! elasticstore/elasticstoreref06.EqualProposal: function 58 -/
theorem esref06_EqualProposal.calls {ok : Nat → Prop} {w0 : World} {x1 : api_Proposal} {x5 : api_Proposal} {v2 : Value} {v6 : Value} {r : Bool} (hf : esref06_EqualProposal x1 x5 = some r) (i0 : (vl t_api_Proposal x1 v2).holds ok w0) (i1 : (vl t_api_Proposal x5 v6).holds ok w0) :
    Calls Try.prog 58 #[v2, v6] w0 fun e w' => ∃ v, e = .returned v ∧ ∃ y : Unit, v = .bool r ∧ St ok (bz w0) w' [] [] := by
  unfold esref06_EqualProposal at hf
  refine calls_of_W (fn := Try.f58) (N := 45) Try.func58 rfl Try.ntmps58 rfl ?_
  have hs : St ok (bz w0) w0 [vl t_api_Proposal x1 v2, vl t_api_Proposal x5 v6] [] := St.init (All.cons i0 (All.cons i1 All.nil))
  clear i0 i1
  obtain ⟨cs3, hl4, rfl⟩ := hs.aggv (n := 3) 0 rfl rfl rfl
  obtain ⟨cs7, hl8, rfl⟩ := hs.aggv (n := 3) 1 rfl rfl rfl
  refine W.seqK fun K9 hK9 => ?_
  refine W.region ?_
  refine WL.box (vs := cs3) hs rfl rfl (fun g10 w hs => ?_)
  refine WL.box (vs := cs7) hs rfl rfl (fun g11 w hs => ?_)
  refine WL.assign (v := .bool false) rfl ?_
  refine WL.nil ?_
  refine hK9 _ _ ?_
  refine W.seqK fun K12 hK12 => ?_
  refine W.seqK fun K13 hK13 => ?_
  have Jk16 : ∀ (x15 : Bool) (ρ : Env) (w : World), ρ 2 = .pointer (some ⟨g10, 0, none⟩) → ρ 3 = .pointer (some ⟨g11, 0, none⟩) → ρ 26 = .bool x15 → St ok (bz w0) w [vl t_api_Proposal x5 (.agg cs7.toArray), vl t_api_Proposal x1 (.agg cs3.toArray)] [blk g11 98 cs7, blk g10 98 cs3] → esref06_EqualProposal.j2 x1 x5 x15 = some r → K13 ρ w := by
    intro x15 ρ w h14_2 h14_3 h14_26 hs hf
    refine hK13 _ _ ?_
    unfold esref06_EqualProposal.j2 at hf
    rcases iteE hf with ⟨hc17, hf⟩ | ⟨hc17, hf⟩
    · refine W.cond_true (bool_tr h14_26 hc17) ?_
      refine W.seqK fun K18 hK18 => ?_
      refine W.region ?_
      refine WL.assign (v := .bool false) rfl ?_
      refine WL.nil ?_
      refine hK18 _ _ ?_
      refine W.ret ?_
      have hr := Option.some.inj hf; subst hr
      exact ⟨_, resOk_one rfl rfl, (), rfl, (hs.mask []).pick []⟩
    · refine W.cond_false (bool_tr h14_26 hc17) ?_
      refine W.skip ?_
      refine hK12 _ _ ?_
      refine W.seqK fun K19 hK19 => ?_
      have Jk21 : ∀  (ρ : Env) (w : World), St ok (bz w0) w [] [] → esref06_EqualProposal.j1 = some r → K19 ρ w := by
        intro  ρ w  hs hf
        refine hK19 _ _ ?_
        unfold esref06_EqualProposal.j1 at hf
        refine W.seqK fun K22 hK22 => ?_
        refine W.region ?_
        refine WL.assign (v := .bool true) rfl ?_
        refine WL.nil ?_
        refine hK22 _ _ ?_
        refine W.ret ?_
        have hr := Option.some.inj hf; subst hr
        exact ⟨_, resOk_one rfl rfl, (), rfl, (hs.mask []).pick []⟩
      refine W.seqK fun K23 hK23 => ?_
      refine W.region ?_
      refine WL.assign (v := .int .i64 0) rfl ?_
      refine WL.nil ?_
      refine hK23 _ _ ?_
      refine W.block ?_
      obtain ⟨bs26, hbs26, hfs26⟩ := bindE hf
      refine W.loop hbs26 (fun s ρ w => match s with | x25 => ρ 2 = .pointer (some ⟨g10, 0, none⟩) ∧ ρ 3 = .pointer (some ⟨g11, 0, none⟩) ∧ ρ 5 = .int .i64 x25 ∧ St ok (bz w0) w [vl t_api_Proposal x5 (.agg cs7.toArray), vl t_api_Proposal x1 (.agg cs3.toArray)] [blk g11 98 cs7, blk g10 98 cs3]) ⟨h14_2, h14_3, rfl, (hs.mask [true, true]).pick [0, 1]⟩ ?_
      intro x25 ρ w os26 hI hf hbbs26
      obtain ⟨h24_2, h24_3, h24_5, hs⟩ := hI
      unfold esref06_EqualProposal.l1 at hf
      refine W.seqK fun K27 hK27 => ?_
      refine W.seqK fun K28 hK28 => ?_
      refine W.region ?_
      refine WL.move (v := .int .i64 x25) h24_5 ?_
      refine WL.fieldAddr (m := 2) h24_2 FA98_2 rfl ?_
      refine WL.loadF (z := x1.Changes) F_api_Proposal_Changes hs 1 rfl 1 rfl rfl TI96 (.inr rfl) rfl rfl (fun v29 hs => ?_)
      obtain ⟨a30, c31, rfl⟩ := hs.slice 0 rfl
      refine WL.len (v := .slice a30 (x1.Changes).length c31) rfl (len_slice UN96) ?_
      refine WL.bin (v := .bool (decide (x25 < ((x1.Changes).length : Int)))) rfl rfl (ib_lss _ _ _) ?_
      refine WL.nil ?_
      refine hK28 _ _ ?_
      rcases iteE hf with ⟨hc32, hf⟩ | ⟨hc32, hf⟩
      · refine W.cond_true (bool_tr rfl hc32) ?_
        refine W.skip ?_
        refine hK27 _ _ ?_
        refine W.seqK fun K33 hK33 => ?_
        refine W.block ?_
        refine W.seqK fun K34 hK34 => ?_
        obtain ⟨x38, hxx38, hf⟩ := bindE hf
        obtain ⟨x46, hxx46, hf⟩ := bindE hf
        refine W.any (by kernel_rfl) 11 0 [true, true, true, true, true, true, true, true, true, true, true] rfl rfl (poAt [pv (.pointer (some ⟨g10, 2, none⟩)), pq (fun y : (Option Addr × Nat) => .slice y.1 (x1.Changes).length y.2) (fun v => [vl (tSlice t_api_Change) x1.Changes v]) (fun v => []), pv (.int .i64 x25), pq (fun y : Addr => .pointer (some y)) (fun v => [pl t_api_Change x38 (adOf v)]) (fun v => []), pq (fun y : List Value => .agg y.toArray) (fun v => [vl t_api_Change x38 v]) (fun v => []), pv (.pointer (some ⟨g11, 2, none⟩)), pq (fun y : (Option Addr × Nat) => .slice y.1 (x5.Changes).length y.2) (fun v => [vl (tSlice t_api_Change) x5.Changes v]) (fun v => []), pv (.int .i64 x25), pq (fun y : Addr => .pointer (some y)) (fun v => [pl t_api_Change x46 (adOf v)]) (fun v => []), pq (fun y : List Value => .agg y.toArray) (fun v => [vl t_api_Change x46 v]) (fun v => []), pv (.bool (!decide ((⟨x38.Kind, x38.Server, x38.Weight, x38.Version, (⟨x38.Rule.Kind, x38.Rule.Columns, x38.Rule.Faulty⟩ : api_Rule)⟩ : api_Change) = (⟨x46.Kind, x46.Server, x46.Weight, x46.Version, (⟨x46.Rule.Kind, x46.Rule.Columns, x46.Rule.Faulty⟩ : api_Rule)⟩ : api_Change))))]) (Λ := [blk g11 98 cs7, blk g10 98 cs3]) hs (by kernel_rfl) (by kernel_rfl) (by kernel_rfl) ⟨⟨⟨⟨⟨⟨⟨⟨⟨⟨⟨trivial, ?_⟩, ?_⟩, ?_⟩, ?_⟩, ?_⟩, ?_⟩, ?_⟩, ?_⟩, ?_⟩, ?_⟩, ?_⟩ ?_
        · intro ρ w Γx Λx hs hu hp
          refine WL.fieldAddr (m := 2) ((hu 2 rfl).trans h24_2) FA98_2 rfl ?_
          exact WL.nil ⟨rfl, _, rfl, rfl, hs.cutG 0 0⟩
        · intro ρ w Γx Λx hs hu hp
          have e51 : ρ 34 = .pointer (some ⟨g10, 2, none⟩) := (hp 0 rfl).1
          refine WL.loadF (z := x1.Changes) F_api_Proposal_Changes hs (Λx.length + 1) (getApp rfl) (Γx.length + 2) (getApp rfl) rfl TI96 (.inr rfl) e51 rfl (fun v35 hs => ?_)
          obtain ⟨a36, c37, rfl⟩ := hs.slice 0 rfl
          have hs := hs.add (it := vl (tSlice t_api_Change) x1.Changes (.slice a36 (x1.Changes).length c37)) fun ok hA => hA.get 0 rfl
          exact WL.nil ⟨rfl, _, rfl, ⟨(a36, c37), rfl⟩, hs.cutG 1 1⟩
        · intro ρ w Γx Λx hs hu hp
          refine WL.move (v := .int .i64 x25) ((hu 5 rfl).trans h24_5) ?_
          exact WL.nil ⟨rfl, _, rfl, rfl, hs.cutG 0 0⟩
        · intro ρ w Γx Λx hs hu hp
          obtain ⟨⟨⟨a52, c53⟩, e54r⟩, hm55⟩ := hp 1 rfl
          have e54 : ρ 35 = .slice a52 (x1.Changes).length c53 := e54r
          rw [e54r] at hm55
          have hs := hs.memo1 (it := vl (tSlice t_api_Change) x1.Changes (.slice a52 (x1.Changes).length c53)) (List.mem_append.2 (.inl (hm55 _ (List.mem_of_getElem? (i := 0) rfl))))
          have e56 : ρ 36 = .int .i64 x25 := (hp 2 rfl).1
          refine WL.indexAddr hs 0 rfl UN96 TI120 e54 e56 hxx38 (fun ad39 hs => ?_)
          have hs := hs.add (it := pl t_api_Change x38 ad39) fun ok hA => hA.get 0 rfl
          exact WL.nil ⟨rfl, _, rfl, ⟨ad39, rfl⟩, hs.cutG 1 2⟩
        · intro ρ w Γx Λx hs hu hp
          obtain ⟨⟨ad57, e58r⟩, hm59⟩ := hp 3 rfl
          have e58 : ρ 37 = .pointer (some ad57) := e58r
          rw [e58r] at hm59
          have hs := hs.memo1 (it := pl t_api_Change x38 ad57) (List.mem_append.2 (.inl (hm59 _ (List.mem_of_getElem? (i := 0) rfl))))
          refine WL.loadP hs 0 rfl TI120 (.inl rfl) e58 (fun v40 hs => ?_)
          obtain ⟨cs41, hl42, rfl⟩ := hs.aggv (n := 7) 0 rfl rfl rfl
          have hs := hs.add (it := vl t_api_Change x38 (.agg cs41.toArray)) fun ok hA => hA.get 0 rfl
          exact WL.nil ⟨rfl, _, rfl, ⟨cs41, rfl⟩, hs.cutG 1 2⟩
        · intro ρ w Γx Λx hs hu hp
          refine WL.fieldAddr (m := 2) ((hu 3 rfl).trans h24_3) FA98_2 rfl ?_
          exact WL.nil ⟨rfl, _, rfl, rfl, hs.cutG 0 0⟩
        · intro ρ w Γx Λx hs hu hp
          have e60 : ρ 39 = .pointer (some ⟨g11, 2, none⟩) := (hp 5 rfl).1
          refine WL.loadF (z := x5.Changes) F_api_Proposal_Changes hs (Λx.length + 0) (getApp rfl) (Γx.length + 1) (getApp rfl) rfl TI96 (.inr rfl) e60 rfl (fun v43 hs => ?_)
          obtain ⟨a44, c45, rfl⟩ := hs.slice 0 rfl
          have hs := hs.add (it := vl (tSlice t_api_Change) x5.Changes (.slice a44 (x5.Changes).length c45)) fun ok hA => hA.get 0 rfl
          exact WL.nil ⟨rfl, _, rfl, ⟨(a44, c45), rfl⟩, hs.cutG 1 1⟩
        · intro ρ w Γx Λx hs hu hp
          refine WL.move (v := .int .i64 x25) ((hu 5 rfl).trans h24_5) ?_
          exact WL.nil ⟨rfl, _, rfl, rfl, hs.cutG 0 0⟩
        · intro ρ w Γx Λx hs hu hp
          obtain ⟨⟨⟨a61, c62⟩, e63r⟩, hm64⟩ := hp 6 rfl
          have e63 : ρ 40 = .slice a61 (x5.Changes).length c62 := e63r
          rw [e63r] at hm64
          have hs := hs.memo1 (it := vl (tSlice t_api_Change) x5.Changes (.slice a61 (x5.Changes).length c62)) (List.mem_append.2 (.inl (hm64 _ (List.mem_of_getElem? (i := 0) rfl))))
          have e65 : ρ 41 = .int .i64 x25 := (hp 7 rfl).1
          refine WL.indexAddr hs 0 rfl UN96 TI120 e63 e65 hxx46 (fun ad47 hs => ?_)
          have hs := hs.add (it := pl t_api_Change x46 ad47) fun ok hA => hA.get 0 rfl
          exact WL.nil ⟨rfl, _, rfl, ⟨ad47, rfl⟩, hs.cutG 1 2⟩
        · intro ρ w Γx Λx hs hu hp
          obtain ⟨⟨ad66, e67r⟩, hm68⟩ := hp 8 rfl
          have e67 : ρ 42 = .pointer (some ad66) := e67r
          rw [e67r] at hm68
          have hs := hs.memo1 (it := pl t_api_Change x46 ad66) (List.mem_append.2 (.inl (hm68 _ (List.mem_of_getElem? (i := 0) rfl))))
          refine WL.loadP hs 0 rfl TI120 (.inl rfl) e67 (fun v48 hs => ?_)
          obtain ⟨cs49, hl50, rfl⟩ := hs.aggv (n := 7) 0 rfl rfl rfl
          have hs := hs.add (it := vl t_api_Change x46 (.agg cs49.toArray)) fun ok hA => hA.get 0 rfl
          exact WL.nil ⟨rfl, _, rfl, ⟨cs49, rfl⟩, hs.cutG 1 2⟩
        · intro ρ w Γx Λx hs hu hp
          obtain ⟨⟨cs69, e71r⟩, hm72⟩ := hp 4 rfl
          have e71 : ρ 38 = .agg cs69.toArray := e71r
          rw [e71r] at hm72
          have hs := hs.memo1 (it := vl t_api_Change x38 (.agg cs69.toArray)) (List.mem_append.2 (.inl (hm72 _ (List.mem_of_getElem? (i := 0) rfl))))
          have hl70 := hs.agglen (n := 7) 0 rfl rfl rfl
          obtain ⟨⟨cs73, e75r⟩, hm76⟩ := hp 9 rfl
          have e75 : ρ 43 = .agg cs73.toArray := e75r
          rw [e75r] at hm76
          have hs := hs.memo1 (it := vl t_api_Change x46 (.agg cs73.toArray)) (List.mem_cons_of_mem _ (List.mem_append.2 (.inl (hm76 _ (List.mem_of_getElem? (i := 0) rfl)))))
          have hl74 := hs.agglen (n := 7) 0 rfl rfl rfl
          obtain rfl := open_api_Change hs 1 rfl
          obtain rfl := open_api_Change hs 0 rfl
          refine WL.eqA e71 e75 EG120 (NQ120 (⟨x38.Kind, x38.Server, x38.Weight, x38.Version, (⟨x38.Rule.Kind, x38.Rule.Columns, x38.Rule.Faulty⟩ : api_Rule)⟩ : api_Change) (⟨x46.Kind, x46.Server, x46.Weight, x46.Version, (⟨x46.Rule.Kind, x46.Rule.Columns, x46.Rule.Faulty⟩ : api_Rule)⟩ : api_Change)) ?_
          exact WL.nil ⟨rfl, _, rfl, rfl, hs.cutG 0 2⟩
        · intro ρ w hs hu77 hp
          obtain ⟨⟨⟨⟨⟨⟨⟨⟨⟨⟨⟨_, hp0_⟩, hp1_⟩, hp2_⟩, hp3_⟩, hp4_⟩, hp5_⟩, hp6_⟩, hp7_⟩, hp8_⟩, hp9_⟩, hp10_⟩ := hp
          have hs : St ok (bz w0) w [vl t_api_Change x46 (ρ 43), pl t_api_Change x46 (adOf (ρ 42)), vl (tSlice t_api_Change) x5.Changes (ρ 40), vl t_api_Change x38 (ρ 38), pl t_api_Change x38 (adOf (ρ 37)), vl (tSlice t_api_Change) x1.Changes (ρ 35), vl (tSlice t_api_Change) x1.Changes (.slice a30 (x1.Changes).length c31), vl t_api_Proposal x5 (.agg cs7.toArray), vl t_api_Proposal x1 (.agg cs3.toArray)] [blk g11 98 cs7, blk g10 98 cs3] := hs
          have e78 : ρ 44 = .bool (!decide ((⟨x38.Kind, x38.Server, x38.Weight, x38.Version, (⟨x38.Rule.Kind, x38.Rule.Columns, x38.Rule.Faulty⟩ : api_Rule)⟩ : api_Change) = (⟨x46.Kind, x46.Server, x46.Weight, x46.Version, (⟨x46.Rule.Kind, x46.Rule.Columns, x46.Rule.Faulty⟩ : api_Rule)⟩ : api_Change))) := hp10_
          obtain ⟨cs79, e81⟩ := hp9_
          have e81 : ρ 43 = .agg cs79.toArray := e81
          try rw [e81] at hs
          obtain ⟨ad82, e83⟩ := hp8_
          have e83 : ρ 42 = .pointer (some ad82) := e83
          try rw [e83] at hs
          have e84 : ρ 41 = .int .i64 x25 := hp7_
          obtain ⟨⟨a85, c86⟩, e87⟩ := hp6_
          have e87 : ρ 40 = .slice a85 (x5.Changes).length c86 := e87
          try rw [e87] at hs
          have e88 : ρ 39 = .pointer (some ⟨g11, 2, none⟩) := hp5_
          obtain ⟨cs89, e91⟩ := hp4_
          have e91 : ρ 38 = .agg cs89.toArray := e91
          try rw [e91] at hs
          obtain ⟨ad92, e93⟩ := hp3_
          have e93 : ρ 37 = .pointer (some ad92) := e93
          try rw [e93] at hs
          have e94 : ρ 36 = .int .i64 x25 := hp2_
          obtain ⟨⟨a95, c96⟩, e97⟩ := hp1_
          have e97 : ρ 35 = .slice a95 (x1.Changes).length c96 := e97
          try rw [e97] at hs
          have e98 : ρ 34 = .pointer (some ⟨g10, 2, none⟩) := hp0_
          have hl90 := hs.agglen (n := 7) 3 rfl rfl rfl
          have hl80 := hs.agglen (n := 7) 0 rfl rfl rfl
          refine WA.done (by kernel_rfl) ?_
          refine hK34 _ _ ?_
          rcases iteE hf with ⟨hc99, hf⟩ | ⟨hc99, hf⟩
          · refine W.cond_true (bool_tr e78 hc99) ?_
            refine W.seqK fun K100 hK100 => ?_
            refine W.region ?_
            refine WL.assign (v := .bool false) rfl ?_
            refine WL.nil ?_
            refine hK100 _ _ ?_
            refine W.ret ?_
            have hr := Option.some.inj hf; subst hr
            have hr := hbbs26 _ rfl; subst hr
            have hf := hfs26
            have hr := Option.some.inj hf; subst hr
            exact ⟨_, resOk_one rfl rfl, (), rfl, (hs.mask []).pick []⟩
          · refine W.cond_false (bool_tr e78 hc99) ?_
            refine W.skip ?_
            refine hK33 _ _ ?_
            refine W.region ?_
            refine WL.move (v := .int .i64 x25) ((hu77 5 rfl).trans h24_5) ?_
            obtain ⟨x101, ex101, hf⟩ := letE hf
            refine WL.bin (v := .int .i64 x101) rfl rfl (ib_as ex101 (ib_add _ _ _)) ?_
            refine WL.assign (v := .int .i64 x101) rfl ?_
            refine WL.nil ?_
            exact ⟨_, (Option.some.inj hf).symm, ((hu77 2 rfl).trans h24_2), ((hu77 3 rfl).trans h24_3), rfl, (hs.mask [true, true]).pick [7, 8]⟩
      · refine W.cond_false (bool_tr rfl hc32) ?_
        refine W.exit ?_
        have hr := Option.some.inj hf; subst hr
        have hr := hbbs26 _ rfl; subst hr
        have hf := hfs26
        exact Jk21  _ _  ((hs.mask []).pick []) hf
  refine W.region ?_
  refine WL.fieldAddr (m := 0) rfl FA98_0 rfl ?_
  refine WL.loadF (z := x1.Admin) F_api_Proposal_Admin hs 1 rfl 0 rfl rfl TI3 (.inr rfl) rfl rfl (fun v103 hs => ?_)
  obtain rfl := hs.int 0 rfl
  refine WL.fieldAddr (m := 0) rfl FA98_0 rfl ?_
  refine WL.loadF (z := x5.Admin) F_api_Proposal_Admin hs 0 rfl 2 rfl rfl TI3 (.inr rfl) rfl rfl (fun v104 hs => ?_)
  obtain rfl := hs.int 0 rfl
  refine WL.bin (v := .bool (x1.Admin != x5.Admin)) rfl rfl (ib_neq _ _ _) ?_
  refine WL.move (v := .bool (x1.Admin != x5.Admin)) rfl ?_
  rcases iteE hf with ⟨hc105, hf⟩ | ⟨hc105, hf⟩
  · refine WL.pass ((wanted_of rfl rfl (bool_tr rfl hc105)).trans rfl) rfl ?_
    refine WL.pass ((wanted_of rfl rfl (bool_tr rfl hc105)).trans rfl) rfl ?_
    refine WL.pass ((wanted_of rfl rfl (bool_tr rfl hc105)).trans rfl) rfl ?_
    refine WL.pass ((wanted_of rfl rfl (bool_tr rfl hc105)).trans rfl) rfl ?_
    refine WL.pass ((wanted_of rfl rfl (bool_tr rfl hc105)).trans rfl) rfl ?_
    refine WL.pickT (v := .bool true) (bool_tr rfl hc105) rfl ?_
    refine WL.move (v := .bool true) rfl ?_
    refine WL.pass ((wanted_of rfl rfl rfl).trans rfl) rfl ?_
    refine WL.pass ((wanted_of rfl rfl rfl).trans rfl) rfl ?_
    refine WL.pass ((wanted_of rfl rfl rfl).trans rfl) rfl ?_
    refine WL.pass ((wanted_of rfl rfl rfl).trans rfl) rfl ?_
    refine WL.pass ((wanted_of rfl rfl rfl).trans rfl) rfl ?_
    refine WL.pass ((wanted_of rfl rfl rfl).trans rfl) rfl ?_
    refine WL.pass ((wanted_of rfl rfl rfl).trans rfl) rfl ?_
    refine WL.pickT (v := .bool true) rfl rfl ?_
    refine WL.nil ?_
    exact Jk16 true _ _ rfl rfl rfl ((hs.mask [true, true]).pick [3, 2]) hf
  · refine WL.fieldAddr (m := 1) rfl FA98_1 rfl ?_ (hg := (wanted_of rfl rfl (bool_tr rfl hc105)).trans rfl)
    refine WL.loadF (z := x1.Number) F_api_Proposal_Number hs 1 rfl 2 rfl rfl TI3 (.inr rfl) rfl rfl (fun v106 hs => ?_) (hg := (wanted_of rfl rfl (bool_tr rfl hc105)).trans rfl)
    obtain rfl := hs.int 0 rfl
    refine WL.fieldAddr (m := 1) rfl FA98_1 rfl ?_ (hg := (wanted_of rfl rfl (bool_tr rfl hc105)).trans rfl)
    refine WL.loadF (z := x5.Number) F_api_Proposal_Number hs 0 rfl 4 rfl rfl TI3 (.inr rfl) rfl rfl (fun v107 hs => ?_) (hg := (wanted_of rfl rfl (bool_tr rfl hc105)).trans rfl)
    obtain rfl := hs.int 0 rfl
    refine WL.bin (v := .bool (x1.Number != x5.Number)) rfl rfl (ib_neq _ _ _) ?_ (hg := (wanted_of rfl rfl (bool_tr rfl hc105)).trans rfl)
    refine WL.pickF (v := .bool (x1.Number != x5.Number)) (bool_tr rfl hc105) rfl ?_
    refine WL.move (v := .bool (x1.Number != x5.Number)) rfl ?_
    rcases iteE hf with ⟨hc108, hf⟩ | ⟨hc108, hf⟩
    · refine WL.pass ((wanted_of rfl rfl (bool_tr rfl hc108)).trans rfl) rfl ?_
      refine WL.pass ((wanted_of rfl rfl (bool_tr rfl hc108)).trans rfl) rfl ?_
      refine WL.pass ((wanted_of rfl rfl (bool_tr rfl hc108)).trans rfl) rfl ?_
      refine WL.pass ((wanted_of rfl rfl (bool_tr rfl hc108)).trans rfl) rfl ?_
      refine WL.pass ((wanted_of rfl rfl (bool_tr rfl hc108)).trans rfl) rfl ?_
      refine WL.pass ((wanted_of rfl rfl (bool_tr rfl hc108)).trans rfl) rfl ?_
      refine WL.pass ((wanted_of rfl rfl (bool_tr rfl hc108)).trans rfl) rfl ?_
      refine WL.pickT (v := .bool true) (bool_tr rfl hc108) rfl ?_
      refine WL.nil ?_
      exact Jk16 true _ _ rfl rfl rfl ((hs.mask [true, true]).pick [5, 4]) hf
    · refine WL.fieldAddr (m := 2) rfl FA98_2 rfl ?_ (hg := (wanted_of rfl rfl (bool_tr rfl hc108)).trans rfl)
      refine WL.loadF (z := x1.Changes) F_api_Proposal_Changes hs 1 rfl 4 rfl rfl TI96 (.inr rfl) rfl rfl (fun v109 hs => ?_) (hg := (wanted_of rfl rfl (bool_tr rfl hc108)).trans rfl)
      obtain ⟨a110, c111, rfl⟩ := hs.slice 0 rfl
      refine WL.len (v := .slice a110 (x1.Changes).length c111) rfl (len_slice UN96) ?_ (hg := (wanted_of rfl rfl (bool_tr rfl hc108)).trans rfl)
      refine WL.fieldAddr (m := 2) rfl FA98_2 rfl ?_ (hg := (wanted_of rfl rfl (bool_tr rfl hc108)).trans rfl)
      refine WL.loadF (z := x5.Changes) F_api_Proposal_Changes hs 0 rfl 6 rfl rfl TI96 (.inr rfl) rfl rfl (fun v112 hs => ?_) (hg := (wanted_of rfl rfl (bool_tr rfl hc108)).trans rfl)
      obtain ⟨a113, c114, rfl⟩ := hs.slice 0 rfl
      refine WL.len (v := .slice a113 (x5.Changes).length c114) rfl (len_slice UN96) ?_ (hg := (wanted_of rfl rfl (bool_tr rfl hc108)).trans rfl)
      refine WL.bin (v := .bool (((x1.Changes).length : Int) != ((x5.Changes).length : Int))) rfl rfl (ib_neq _ _ _) ?_ (hg := (wanted_of rfl rfl (bool_tr rfl hc108)).trans rfl)
      refine WL.pickF (v := .bool (((x1.Changes).length : Int) != ((x5.Changes).length : Int))) (bool_tr rfl hc108) rfl ?_
      refine WL.nil ?_
      exact Jk16 (((x1.Changes).length : Int) != ((x5.Changes).length : Int)) _ _ rfl rfl rfl ((hs.mask [true, true]).pick [7, 6]) hf
end Go.Proofs.Ytahobbichanccaa
