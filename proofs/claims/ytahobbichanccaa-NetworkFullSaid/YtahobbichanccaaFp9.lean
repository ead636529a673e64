import Derived.Test.YtahobbichanccaaFh
import Derived.Test.YtahobbichanccaaFp0
import Derived.Test.YtahobbichanccaaFp1
set_option linter.unusedVariables false
set_option linter.unusedSimpArgs false
namespace Go.Proofs.Ytahobbichanccaa
open Go Go.RowKit Go.Proofs.YtahobbichanccaaL
set_option maxRecDepth 100000
set_option maxHeartbeats 4000000
/-! elasticstore/network.Find: function 22 -/
theorem network_Find.calls {ok : Nat → Prop} {w0 : World} {x1 : network_Network} {x5 : Int} {v2 : Value} {r : api_Message × Bool} (hf : network_Find x1 x5 = some r) (i0 : (vl t_network_Network x1 v2).holds ok w0) :
    Calls Try.prog 22 #[v2, .int .i64 x5] w0 fun e w' => ∃ v, e = .returned v ∧ ∃ y : List Value, v = .tuple #[.agg y.toArray, .bool r.2] ∧ St ok (bz w0) w' [vl t_api_Message r.1 (.agg y.toArray)] [] := by
  unfold network_Find at hf
  refine calls_of_W (fn := Try.f22) (N := 23) Try.func22 rfl Try.ntmps22 rfl ?_
  have hs : St ok (bz w0) w0 [vl t_network_Network x1 v2] [] := St.init (All.cons i0 All.nil)
  clear i0
  obtain ⟨cs3, hl4, rfl⟩ := hs.aggv (n := 3) 0 rfl rfl rfl
  refine W.seqK fun K6 hK6 => ?_
  refine W.region ?_
  refine WL.box (vs := cs3) hs rfl rfl (fun g7 w hs => ?_)
  refine WL.alloc hs ZV49 (fun g8 w hs => ?_)
  refine WL.assign (v := .bool false) rfl ?_
  refine WL.nil ?_
  refine hK6 _ _ ?_
  refine W.seqK fun K9 hK9 => ?_
  refine W.region ?_
  refine WL.loadAll hs 1 rfl TI27 rfl hl4 ?_
  refine WL.move (v := .int .i64 x5) rfl ?_
  obtain ⟨⟨x10, x11⟩, hxx10, hf⟩ := bindE hf
  refine WL.call (vs := [.agg cs3.toArray, .int .i64 x5]) hs FN40 ⟨rfl, ⟨rfl, trivial⟩⟩ (fun ok hA => network_position.calls (x1 := x1) (x5 := x5) hxx10 (hA.get 0 rfl)) ?_
  rintro _ w hs
  refine WL.move (v := .tuple #[.int .i64 x10, .bool x11]) rfl ?_
  refine WL.extract (v := .int .i64 x10) rfl rfl ?_
  refine WL.extract (v := .bool x11) rfl rfl ?_
  refine WL.assign (v := .int .i64 x10) rfl ?_
  refine WL.assign (v := .bool x11) rfl ?_
  refine WL.nil ?_
  refine hK9 _ _ ?_
  refine W.seqK fun K12 hK12 => ?_
  refine W.seqK fun K13 hK13 => ?_
  refine W.region ?_
  refine WL.move (v := .bool x11) rfl ?_
  refine WL.not rfl ?_
  refine WL.nil ?_
  refine hK13 _ _ ?_
  rcases iteE hf with ⟨hc14, hf⟩ | ⟨hc14, hf⟩
  · refine W.cond_true (bool_tr rfl hc14) ?_
    refine W.seqK fun K15 hK15 => ?_
    refine W.region ?_
    refine WL.build (vs := []) (cs := [.int .i64 0, .int .i64 0, .int .i64 0, .int .i64 0, .int .i64 0, .int .i64 0, .int .i64 0, .slice none 0 0, .slice none 0 0, .slice none 0 0, .slice none 0 0, .bool false, .slice none 0 0, .slice none 0 0, .slice none 0 0, .slice none 0 0, .slice none 0 0, .bool false]) trivial (bld PL49 rfl) ?_
    refine WL.storeAll (vs := [.int .i64 0, .int .i64 0, .int .i64 0, .int .i64 0, .int .i64 0, .int .i64 0, .int .i64 0, .slice none 0 0, .slice none 0 0, .slice none 0 0, .slice none 0 0, .bool false, .slice none 0 0, .slice none 0 0, .slice none 0 0, .slice none 0 0, .slice none 0 0, .bool false]) hs 0 rfl TI49 rfl rfl rfl rfl (ones_of rfl) rfl (fun w hs => ?_)
    refine WL.assign (v := .bool false) rfl ?_
    refine WL.nil ?_
    refine hK15 _ _ ?_
    refine W.ret ?_
    have hr := Option.some.inj hf; subst hr
    have hs := hs.add (it := vl t_api_Message (⟨0, 0, 0, (⟨0, 0⟩ : api_AccessID), 0, 0, (⟨[], []⟩ : api_Certificate), (⟨[], []⟩ : api_Certificate), false, (⟨[], []⟩ : api_Certificate), [], [], [], false⟩ : api_Message) (.agg [.int .i64 0, .int .i64 0, .int .i64 0, .int .i64 0, .int .i64 0, .int .i64 0, .int .i64 0, .slice none 0 0, .slice none 0 0, .slice none 0 0, .slice none 0 0, .bool false, .slice none 0 0, .slice none 0 0, .slice none 0 0, .slice none 0 0, .slice none 0 0, .bool false].toArray)) fun ok hA => V_agg (show t_api_Message.R ok _ _ _ from ⟨[.int .i64 0], [.int .i64 0, .int .i64 0, .int .i64 0, .int .i64 0, .int .i64 0, .int .i64 0, .slice none 0 0, .slice none 0 0, .slice none 0 0, .slice none 0 0, .bool false, .slice none 0 0, .slice none 0 0, .slice none 0 0, .slice none 0 0, .slice none 0 0, .bool false], rfl, rfl, ⟨[.int .i64 0], [.int .i64 0, .int .i64 0, .int .i64 0, .int .i64 0, .int .i64 0, .slice none 0 0, .slice none 0 0, .slice none 0 0, .slice none 0 0, .bool false, .slice none 0 0, .slice none 0 0, .slice none 0 0, .slice none 0 0, .slice none 0 0, .bool false], rfl, rfl, ⟨[.int .i64 0], [.int .i64 0, .int .i64 0, .int .i64 0, .int .i64 0, .slice none 0 0, .slice none 0 0, .slice none 0 0, .slice none 0 0, .bool false, .slice none 0 0, .slice none 0 0, .slice none 0 0, .slice none 0 0, .slice none 0 0, .bool false], rfl, rfl, ⟨[.int .i64 0, .int .i64 0], [.int .i64 0, .int .i64 0, .slice none 0 0, .slice none 0 0, .slice none 0 0, .slice none 0 0, .bool false, .slice none 0 0, .slice none 0 0, .slice none 0 0, .slice none 0 0, .slice none 0 0, .bool false], rfl, ⟨[.int .i64 0], [.int .i64 0], rfl, rfl, rfl⟩, ⟨[.int .i64 0], [.int .i64 0, .slice none 0 0, .slice none 0 0, .slice none 0 0, .slice none 0 0, .bool false, .slice none 0 0, .slice none 0 0, .slice none 0 0, .slice none 0 0, .slice none 0 0, .bool false], rfl, rfl, ⟨[.int .i64 0], [.slice none 0 0, .slice none 0 0, .slice none 0 0, .slice none 0 0, .bool false, .slice none 0 0, .slice none 0 0, .slice none 0 0, .slice none 0 0, .slice none 0 0, .bool false], rfl, rfl, ⟨[.slice none 0 0, .slice none 0 0], [.slice none 0 0, .slice none 0 0, .bool false, .slice none 0 0, .slice none 0 0, .slice none 0 0, .slice none 0 0, .slice none 0 0, .bool false], rfl, ⟨[.slice none 0 0], [.slice none 0 0], rfl, R_nil, R_nil⟩, ⟨[.slice none 0 0, .slice none 0 0], [.bool false, .slice none 0 0, .slice none 0 0, .slice none 0 0, .slice none 0 0, .slice none 0 0, .bool false], rfl, ⟨[.slice none 0 0], [.slice none 0 0], rfl, R_nil, R_nil⟩, ⟨[.bool false], [.slice none 0 0, .slice none 0 0, .slice none 0 0, .slice none 0 0, .slice none 0 0, .bool false], rfl, rfl, ⟨[.slice none 0 0, .slice none 0 0], [.slice none 0 0, .slice none 0 0, .slice none 0 0, .bool false], rfl, ⟨[.slice none 0 0], [.slice none 0 0], rfl, R_nil, R_nil⟩, ⟨[.slice none 0 0], [.slice none 0 0, .slice none 0 0, .bool false], rfl, R_nil, ⟨[.slice none 0 0], [.slice none 0 0, .bool false], rfl, R_nil, ⟨[.slice none 0 0], [.bool false], rfl, R_nil, rfl⟩⟩⟩⟩⟩⟩⟩⟩⟩⟩⟩⟩⟩) rfl
    exact ⟨_, resOk_two rfl (res_all hs 0 rfl TI49 rfl rfl) rfl, [.int .i64 0, .int .i64 0, .int .i64 0, .int .i64 0, .int .i64 0, .int .i64 0, .int .i64 0, .slice none 0 0, .slice none 0 0, .slice none 0 0, .slice none 0 0, .bool false, .slice none 0 0, .slice none 0 0, .slice none 0 0, .slice none 0 0, .slice none 0 0, .bool false], rfl, (hs.mask []).pick [0]⟩
  · refine W.cond_false (bool_tr rfl hc14) ?_
    refine W.skip ?_
    refine hK12 _ _ ?_
    refine W.seqK fun K16 hK16 => ?_
    refine W.region ?_
    refine WL.fieldAddr (m := 1) rfl FA27_1 rfl ?_
    refine WL.loadF (z := x1.Packets) F_network_Network_Packets hs 1 rfl 0 rfl rfl TI25 (.inr rfl) rfl rfl (fun v17 hs => ?_)
    obtain ⟨a18, c19, rfl⟩ := hs.slice 0 rfl
    refine WL.move (v := .int .i64 x10) rfl ?_
    obtain ⟨x20, hxx20, hf⟩ := bindE hf
    refine WL.indexAddr hs 0 rfl UN25 TI51 rfl rfl hxx20 (fun ad21 hs => ?_)
    refine WL.fieldAddrP (z := x20.Message) F_network_Packet_Message hs 0 rfl rfl FA51_1 rfl (fun ad22 hs => ?_)
    refine WL.loadP hs 0 rfl TI49 (.inl rfl) rfl (fun v23 hs => ?_)
    obtain ⟨cs24, hl25, rfl⟩ := hs.aggv (n := 18) 0 rfl rfl rfl
    refine WL.storeAll (vs := cs24) hs 0 rfl TI49 rfl rfl rfl hl25 (hs.ones 0 rfl rfl) rfl (fun w hs => ?_)
    refine WL.assign (v := .bool true) rfl ?_
    refine WL.nil ?_
    refine hK16 _ _ ?_
    refine W.ret ?_
    have hr := Option.some.inj hf; subst hr
    exact ⟨_, resOk_two rfl (res_all hs 0 rfl TI49 rfl hl25) rfl, cs24, rfl, (hs.mask []).pick [0]⟩
/-! elasticstore/network.Duplicate: function 18 -/
theorem network_Duplicate.calls {ok : Nat → Prop} {w0 : World} {x1 : network_Network} {x5 : Int} {v2 : Value} {r : network_Network × Int × Bool} (hf : network_Duplicate x1 x5 = some r) (i0 : (vl t_network_Network x1 v2).holds ok w0) :
    Calls Try.prog 18 #[v2, .int .i64 x5] w0 fun e w' => ∃ v, e = .returned v ∧ ∃ y : List Value, v = .tuple #[.agg y.toArray, .int .i64 r.2.1, .bool r.2.2] ∧ St ok (bz w0) w' [vl t_network_Network r.1 (.agg y.toArray)] [] := by
  unfold network_Duplicate at hf
  refine calls_of_W (fn := Try.f18) (N := 31) Try.func18 rfl Try.ntmps18 rfl ?_
  have hs : St ok (bz w0) w0 [vl t_network_Network x1 v2] [] := St.init (All.cons i0 All.nil)
  clear i0
  obtain ⟨cs3, hl4, rfl⟩ := hs.aggv (n := 3) 0 rfl rfl rfl
  refine W.seqK fun K6 hK6 => ?_
  refine W.region ?_
  refine WL.box (vs := cs3) hs rfl rfl (fun g7 w hs => ?_)
  refine WL.alloc hs ZV27 (fun g8 w hs => ?_)
  refine WL.assign (v := .int .i64 0) rfl ?_
  refine WL.assign (v := .bool false) rfl ?_
  refine WL.nil ?_
  refine hK6 _ _ ?_
  refine W.seqK fun K9 hK9 => ?_
  refine W.region ?_
  refine WL.loadAll hs 1 rfl TI27 rfl hl4 ?_
  refine WL.move (v := .int .i64 x5) rfl ?_
  obtain ⟨⟨x10, x11⟩, hxx10, hf⟩ := bindE hf
  refine WL.call (vs := [.agg cs3.toArray, .int .i64 x5]) hs FN22 ⟨rfl, ⟨rfl, trivial⟩⟩ (fun ok hA => network_Find.calls (x1 := x1) (x5 := x5) hxx10 (hA.get 0 rfl)) ?_
  rintro cs12 w hs
  have hl13 := hs.agglen (n := 18) 0 rfl rfl rfl
  refine WL.move (v := .tuple #[.agg cs12.toArray, .bool x11]) rfl ?_
  refine WL.extract (v := .agg cs12.toArray) rfl rfl ?_
  refine WL.extract (v := .bool x11) rfl rfl ?_
  refine WL.alloc hs ZV49 (fun g14 w hs => ?_)
  refine WL.storeAll (vs := cs12) hs 0 rfl TI49 rfl rfl rfl hl13 (hs.ones 0 rfl rfl) rfl (fun w hs => ?_)
  refine WL.assign (v := .bool x11) rfl ?_
  refine WL.nil ?_
  refine hK9 _ _ ?_
  refine W.seqK fun K15 hK15 => ?_
  refine W.seqK fun K16 hK16 => ?_
  have Jk19 : ∀ (x18 : Bool) (ρ : Env) (w : World), ρ 2 = .pointer (some ⟨g7, 0, none⟩) → ρ 4 = .pointer (some ⟨g8, 0, none⟩) → ρ 7 = .pointer (some ⟨g14, 0, none⟩) → ρ 22 = .bool x18 → St ok (bz w0) w [vl t_api_Message x10 (.agg cs12.toArray), vl t_network_Network x1 (.agg cs3.toArray)] [blk g14 49 cs12, blk g8 27 [.int .i64 0, .slice none 0 0, .slice none 0 0], blk g7 27 cs3] → network_Duplicate.j1 x1 x10 x18 = some r → K16 ρ w := by
    intro x18 ρ w h17_2 h17_4 h17_7 h17_22 hs hf
    refine hK16 _ _ ?_
    unfold network_Duplicate.j1 at hf
    rcases iteE hf with ⟨hc20, hf⟩ | ⟨hc20, hf⟩
    · refine W.cond_true (bool_tr h17_22 hc20) ?_
      refine W.seqK fun K21 hK21 => ?_
      refine W.region ?_
      refine WL.loadAll hs 2 rfl TI27 h17_2 hl4 ?_
      obtain ⟨x22, hxx22, hf⟩ := bindE hf
      refine WL.call (vs := [.agg cs3.toArray]) hs FN27 ⟨rfl, trivial⟩ (fun ok hA => network_clone.calls (x1 := x1) hxx22 (hA.get 1 rfl)) ?_
      rintro ⟨⟨a23, n24, c25⟩, ⟨a26, n27, c28⟩⟩ w hs
      refine WL.storeAll (vs := [.int .i64 x22.Next, .slice a23 n24 c25, .slice a26 n27 c28]) hs 3 rfl TI27 h17_4 rfl rfl rfl (ones_of rfl) rfl (fun w hs => ?_)
      refine WL.assign (v := .int .i64 0) rfl ?_
      refine WL.assign (v := .bool false) rfl ?_
      refine WL.nil ?_
      refine hK21 _ _ ?_
      refine W.ret ?_
      have hr := Option.some.inj hf; subst hr
      obtain rfl := hs.ownLen 0 rfl
      have hs := hs.freezeOwn 0 rfl
      obtain rfl := hs.ownLen 0 rfl
      have hs := hs.freezeOwn 0 rfl
      have hs := hs.add (it := vl t_network_Network (⟨x22.Next, x22.Packets, x22.Sides⟩ : network_Network) (.agg [.int .i64 x22.Next, .slice a23 (x22.Packets).length c25, .slice a26 (x22.Sides).length c28].toArray)) fun ok hA => V_agg (show t_network_Network.R ok _ _ _ from ⟨[.int .i64 x22.Next], [.slice a23 (x22.Packets).length c25, .slice a26 (x22.Sides).length c28], rfl, rfl, ⟨[.slice a23 (x22.Packets).length c25], [.slice a26 (x22.Sides).length c28], rfl, (R_one (hA.get 1 rfl)), (R_one (hA.get 0 rfl))⟩⟩) rfl
      exact ⟨_, resOk_three rfl (res_all hs 1 rfl TI27 h17_4 rfl) rfl rfl, [.int .i64 x22.Next, .slice a23 (x22.Packets).length c25, .slice a26 (x22.Sides).length c28], rfl, (hs.mask []).pick [0]⟩
    · refine W.cond_false (bool_tr h17_22 hc20) ?_
      refine W.skip ?_
      refine hK15 _ _ ?_
      refine W.seqK fun K29 hK29 => ?_
      obtain ⟨x32, hxx32, hf⟩ := bindE hf
      have hs := hs.front 1 rfl
      refine W.any (by kernel_rfl) 7 2 [true, true, true, true, true, true, true, false, false] rfl rfl (poAt [pv (.agg cs3.toArray), pv (.agg cs12.toArray), pq (fun y : (Option Addr × Nat) => .slice y.1 ([x10]).length y.2) (fun v => [vl (tSlice t_api_Message) [x10] v]) (fun v => []), pq (fun y : List Value => .agg y.toArray) (fun v => [vl t_network_Network x32 v]) (fun v => []), pv (.pointer (some ⟨g7, 0, none⟩)), pv (.int .i64 x1.Next), pw (blk g8 27 [.int .i64 0, .slice none 0 0, .slice none 0 0]) (tbx t_network_Network x32 g8 27)]) (Λ := [blk g14 49 cs12, blk g7 27 cs3]) hs (by kernel_rfl) (by kernel_rfl) (by kernel_rfl) ⟨⟨⟨⟨⟨⟨⟨trivial, ?_⟩, ?_⟩, ?_⟩, ?_⟩, ?_⟩, ?_⟩, ?_⟩ ?_
      · intro ρ w Γx Λx hs hu hp
        refine WL.loadAll hs (Λx.length + 1) (getApp rfl) TI27 ((hu 2 rfl).trans h17_2) hl4 ?_
        exact WL.nil ⟨rfl, _, rfl, rfl, hs.cutG 0 0⟩
      · intro ρ w Γx Λx hs hu hp
        refine WL.loadAll hs (Λx.length + 0) (getApp rfl) TI49 ((hu 7 rfl).trans h17_7) hl13 ?_
        exact WL.nil ⟨rfl, _, rfl, rfl, hs.cutG 0 0⟩
      · intro ρ w Γx Λx hs hu hp
        have e36 : ρ 26 = .agg cs12.toArray := (hp 1 rfl).1
        refine WL.buildSliceB (ys := [x10]) (n := 1) (vs := [(0, .agg cs12.toArray)]) (cs := cs12) hs ⟨⟨rfl, e36⟩, trivial⟩ (bls PS30 (by decide) (by simp [fillS, fillL, Value.cells, hl13])) (fun ok hA => (Cells.one (T := t_api_Message) (R_agg (hA.get (Γx.length + 0) (getApp rfl)) rfl))) rfl (by decide) (fun a31 w hBl hs => ?_)
        have hs := hs.add (it := vl (tSlice t_api_Message) [x10] (.slice a31 ([x10]).length 1)) fun ok hA => hA.get 0 rfl
        exact WL.nil ⟨rfl, _, rfl, ⟨(a31, 1), rfl⟩, hs.cutG 1 1⟩
      · intro ρ w Γx Λx hs hu hp
        have e37 : ρ 25 = .agg cs3.toArray := (hp 0 rfl).1
        obtain ⟨⟨⟨a38, c39⟩, e40r⟩, hm41⟩ := hp 2 rfl
        have e40 : ρ 27 = .slice a38 ([x10]).length c39 := e40r
        rw [e40r] at hm41
        have hs := hs.memo1 (it := vl (tSlice t_api_Message) [x10] (.slice a38 ([x10]).length c39)) (List.mem_append.2 (.inl (hm41 _ (List.mem_of_getElem? (i := 0) rfl))))
        refine WL.call (vs := [.agg cs3.toArray, .slice a38 ([x10]).length c39]) hs FN10 ⟨e37, ⟨e40, trivial⟩⟩ (fun ok hA => network_Send.callc (x1 := x1) (x5 := [x10]) hxx32 (hA.get (Γx.length + 1 + 1) (getApp1 rfl)) (hA.get 0 rfl)) ?_
        rintro cs33 w hs
        have hl34 := hs.agglen (n := 3) 0 rfl rfl rfl
        have hs := hs.add (it := vl t_network_Network x32 (.agg cs33.toArray)) fun ok hA => hA.get 0 rfl
        exact WL.nil ⟨rfl, _, rfl, ⟨cs33, rfl⟩, hs.cutG 1 2⟩
      · intro ρ w Γx Λx hs hu hp
        refine WL.fieldAddr (m := 0) ((hu 2 rfl).trans h17_2) FA27_0 rfl ?_
        exact WL.nil ⟨rfl, _, rfl, rfl, hs.cutG 0 0⟩
      · intro ρ w Γx Λx hs hu hp
        have e42 : ρ 29 = .pointer (some ⟨g7, 0, none⟩) := (hp 4 rfl).1
        refine WL.loadF (z := x1.Next) F_network_Network_Next hs (Λx.length + 1) (getApp rfl) (Γx.length + 1) (getApp rfl) rfl TI3 (.inr rfl) e42 rfl (fun v35 hs => ?_)
        obtain rfl := hs.int 0 rfl
        exact WL.nil ⟨rfl, _, rfl, rfl, hs.cutG 0 1⟩
      · intro ρ w Γx Λx hs hu hp
        have hs : St ok (bz w0) w (Γx ++ [vl t_api_Message x10 (.agg cs12.toArray), vl t_network_Network x1 (.agg cs3.toArray)]) (Λx ++ ([blk g8 27 [.int .i64 0, .slice none 0 0, .slice none 0 0]] ++ [blk g14 49 cs12, blk g7 27 cs3])) := hs
        obtain ⟨⟨cs43, e45r⟩, hm46⟩ := hp 3 rfl
        have e45 : ρ 28 = .agg cs43.toArray := e45r
        rw [e45r] at hm46
        have hs := hs.memo1 (it := vl t_network_Network x32 (.agg cs43.toArray)) (List.mem_append.2 (.inl (hm46 _ (List.mem_of_getElem? (i := 0) rfl))))
        have hl44 := hs.agglen (n := 3) 0 rfl rfl rfl
        refine WL.storeAll (vs := cs43) hs (Λx.length + 0) (getApp rfl) TI27 ((hu 4 rfl).trans h17_4) e45 rfl hl44 (hs.ones 0 rfl rfl) rfl (fun w hs => ?_)
        have hs := hs.backP
        have hs := hs.toT (A := t_network_Network) 0 rfl fun ok hA => (R_agg (hA.get 0 rfl) rfl)
        exact WL.nil ⟨rfl, _, rfl, trivial, hs.cutG 0 1⟩
      · intro ρ w hs hu47 hp
        obtain ⟨⟨⟨⟨⟨⟨⟨_, hp0_⟩, hp1_⟩, hp2_⟩, hp3_⟩, hp4_⟩, hp5_⟩, hp6_⟩ := hp
        have hs : St ok (bz w0) w [vl t_network_Network x32 (ρ 28), vl (tSlice t_api_Message) [x10] (ρ 27), vl t_api_Message x10 (.agg cs12.toArray), vl t_network_Network x1 (.agg cs3.toArray)] [tbx t_network_Network x32 g8 27, blk g14 49 cs12, blk g7 27 cs3] := hs
        have e48 : ρ 30 = .int .i64 x1.Next := hp5_
        have e49 : ρ 29 = .pointer (some ⟨g7, 0, none⟩) := hp4_
        obtain ⟨cs50, e52⟩ := hp3_
        have e52 : ρ 28 = .agg cs50.toArray := e52
        try rw [e52] at hs
        obtain ⟨⟨a53, c54⟩, e55⟩ := hp2_
        have e55 : ρ 27 = .slice a53 ([x10]).length c54 := e55
        try rw [e55] at hs
        have e56 : ρ 26 = .agg cs12.toArray := hp1_
        have e57 : ρ 25 = .agg cs3.toArray := hp0_
        have hl51 := hs.agglen (n := 3) 0 rfl rfl rfl
        obtain ⟨cs58, hl59, hs⟩ := hs.ofT (n := 3) 0 rfl rfl rfl
        refine WA.step [7] (by kernel_rfl) (by simp) ⟨?_, trivial⟩
        refine WL.assign (v := .int .i64 x1.Next) e48 ?_
        refine WL.nil ⟨rfl, _, rfl, ?_⟩
        refine WA.step [8] (by kernel_rfl) (by simp) ⟨?_, trivial⟩
        refine WL.assign (v := .bool true) rfl ?_
        refine WL.nil ⟨rfl, _, rfl, ?_⟩
        refine WA.done (by kernel_rfl) ?_
        refine hK29 _ _ ?_
        refine W.ret ?_
        have hr := Option.some.inj hf; subst hr
        exact ⟨_, resOk_three rfl (res_all hs 0 rfl TI27 ((hu47 4 rfl).trans h17_4) hl59) rfl rfl, cs58, rfl, (hs.mask []).pick [0]⟩
  refine W.region ?_
  refine WL.move (v := .bool x11) rfl ?_
  refine WL.not rfl ?_
  refine WL.move (v := .bool (!x11)) rfl ?_
  rcases iteE hf with ⟨hc60, hf⟩ | ⟨hc60, hf⟩
  · refine WL.pass ((wanted_of rfl rfl (bool_tr rfl hc60)).trans rfl) rfl ?_
    refine WL.pass ((wanted_of rfl rfl (bool_tr rfl hc60)).trans rfl) rfl ?_
    refine WL.pass ((wanted_of rfl rfl (bool_tr rfl hc60)).trans rfl) rfl ?_
    refine WL.pass ((wanted_of rfl rfl (bool_tr rfl hc60)).trans rfl) rfl ?_
    refine WL.pickT (v := .bool true) (bool_tr rfl hc60) rfl ?_
    refine WL.nil ?_
    exact Jk19 true _ _ rfl rfl rfl rfl ((hs.mask [true, true, true]).pick [0, 1]) hf
  · refine WL.fieldAddr (m := 1) rfl FA27_1 rfl ?_ (hg := (wanted_of rfl rfl (bool_tr rfl hc60)).trans rfl)
    refine WL.loadF (z := x1.Packets) F_network_Network_Packets hs 2 rfl 1 rfl rfl TI25 (.inr rfl) rfl rfl (fun v61 hs => ?_) (hg := (wanted_of rfl rfl (bool_tr rfl hc60)).trans rfl)
    obtain ⟨a62, c63, rfl⟩ := hs.slice 0 rfl
    refine WL.len (v := .slice a62 (x1.Packets).length c63) rfl (len_slice UN25) ?_ (hg := (wanted_of rfl rfl (bool_tr rfl hc60)).trans rfl)
    refine WL.bin (v := .bool (decide (4096 ≤ ((x1.Packets).length : Int)))) rfl rfl (ib_geq _ _ _) ?_ (hg := (wanted_of rfl rfl (bool_tr rfl hc60)).trans rfl)
    refine WL.pickF (v := .bool (decide (4096 ≤ ((x1.Packets).length : Int)))) (bool_tr rfl hc60) rfl ?_
    refine WL.nil ?_
    exact Jk19 (decide (4096 ≤ ((x1.Packets).length : Int))) _ _ rfl rfl rfl rfl ((hs.mask [true, true, true]).pick [1, 2]) hf
end Go.Proofs.Ytahobbichanccaa
