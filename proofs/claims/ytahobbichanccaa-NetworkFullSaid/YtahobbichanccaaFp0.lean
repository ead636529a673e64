import Derived.Test.YtahobbichanccaaFh
set_option linter.unusedVariables false
set_option linter.unusedSimpArgs false
namespace Go.Proofs.Ytahobbichanccaa
open Go Go.RowKit Go.Proofs.YtahobbichanccaaL
set_option maxRecDepth 100000
set_option maxHeartbeats 4000000
/-! elasticstore/network.New: function 9 -/
theorem network_New.calls {ok : Nat → Prop} {w0 : World}   {r : network_Network} (hf : network_New = some r)  :
    Calls Try.prog 9 #[] w0 fun e w' => ∃ v, e = .returned v ∧ ∃ y : (Option Addr × Nat × Nat) × (Option Addr × Nat × Nat), v = .agg ([.int .i64 r.Next, .slice y.1.1 y.1.2.1 y.1.2.2, .slice y.2.1 y.2.2.1 y.2.2.2] : List Value).toArray ∧ St ok (bz w0) w' [] [own t_network_Packet 51 (.slice y.1.1 y.1.2.1 y.1.2.2) r.Packets, own t_network_Side 69 (.slice y.2.1 y.2.2.1 y.2.2.2) r.Sides] := by
  unfold network_New at hf
  refine calls_of_W (fn := Try.f9) (N := 2) Try.func9 rfl Try.ntmps9 rfl ?_
  have hs : St ok (bz w0) w0 [] [] := St.init All.nil
  refine W.seqK fun K1 hK1 => ?_
  refine W.region ?_
  refine WL.alloc hs ZV27 (fun g2 w hs => ?_)
  refine WL.nil ?_
  refine hK1 _ _ ?_
  refine W.seqK fun K3 hK3 => ?_
  refine W.region ?_
  refine WL.build (vs := [(0, .int .i64 1)]) (cs := [.int .i64 1, .slice none 0 0, .slice none 0 0]) ⟨⟨rfl, rfl⟩, trivial⟩ (bld PL27 rfl) ?_
  refine WL.storeAll (vs := [.int .i64 1, .slice none 0 0, .slice none 0 0]) hs 0 rfl TI27 rfl rfl rfl rfl (ones_of rfl) rfl (fun w hs => ?_)
  refine WL.nil ?_
  refine hK3 _ _ ?_
  refine W.ret ?_
  have hr := Option.some.inj hf; subst hr
  have hs := hs.ownNil t_network_Packet 51
  have hs := hs.ownNil t_network_Side 69
  have hs := hs.front 0 rfl
  have hs := hs.front 1 rfl
  exact ⟨_, resOk_one rfl (res_all hs 2 rfl TI27 rfl rfl), ((none, 0, 0), (none, 0, 0)), rfl, (hs.mask [true, true]).pick []⟩
theorem network_New.callc {ok : Nat → Prop} {w0 : World}   {r : network_Network} (hf : network_New = some r)  :
    Calls Try.prog 9 #[] w0 fun e w' => ∃ v, e = .returned v ∧ ∃ y : List Value, v = .agg y.toArray ∧ St ok (bz w0) w' [vl t_network_Network r (.agg y.toArray)] [] := by
  refine (network_New.calls (ok := ok) (w0 := w0) hf).mono ?_
  rintro e w' ⟨v, rfl, ⟨⟨a4, n5, c6⟩, ⟨a7, n8, c9⟩⟩, rfl, hs⟩
  obtain rfl := hs.ownLen 0 rfl
  have hs := hs.freezeOwn 0 rfl
  obtain rfl := hs.ownLen 0 rfl
  have hs := hs.freezeOwn 0 rfl
  have hs := hs.add (it := vl t_network_Network (⟨r.Next, r.Packets, r.Sides⟩ : network_Network) (.agg [.int .i64 r.Next, .slice a4 (r.Packets).length c6, .slice a7 (r.Sides).length c9].toArray)) fun ok hA => V_agg (show t_network_Network.R ok _ _ _ from ⟨[.int .i64 r.Next], [.slice a4 (r.Packets).length c6, .slice a7 (r.Sides).length c9], rfl, rfl, ⟨[.slice a4 (r.Packets).length c6], [.slice a7 (r.Sides).length c9], rfl, (R_one (hA.get 1 rfl)), (R_one (hA.get 0 rfl))⟩⟩) rfl
  exact ⟨_, rfl, [.int .i64 r.Next, .slice a4 (r.Packets).length c6, .slice a7 (r.Sides).length c9], rfl, hs.pick [0]⟩
/-! slices.Clone[[]elasticstore/network.Packet,elasticstore/network.Packet]: function 48 -/
theorem slices_Clone_Packet.calls {ok : Nat → Prop} {w0 : World} {x1 : List network_Packet} {a2 : Option Addr} {c3 : Nat} {r : List network_Packet} (hf : slices_Clone_Packet x1 = some r) (i0 : (vl (tSlice t_network_Packet) x1 (.slice a2 x1.length c3)).holds ok w0) :
    Calls Try.prog 48 #[.slice a2 x1.length c3] w0 fun e w' => ∃ v, e = .returned v ∧ ∃ y : (Option Addr × Nat × Nat), v = .slice y.1 y.2.1 y.2.2 ∧ St ok (bz w0) w' [] [own t_network_Packet 51 (.slice y.1 y.2.1 y.2.2) r] := by
  unfold slices_Clone_Packet at hf
  refine calls_of_W (fn := Try.f48) (N := 8) Try.func48 rfl Try.ntmps48 rfl ?_
  have hs : St ok (bz w0) w0 [vl (tSlice t_network_Packet) x1 (.slice a2 x1.length c3)] [] := St.init (All.cons i0 All.nil)
  clear i0
  refine W.seqK fun K4 hK4 => ?_
  refine W.region ?_
  refine WL.assign (v := .slice none 0 0) rfl ?_
  refine WL.nil ?_
  refine hK4 _ _ ?_
  refine W.seqK fun K5 hK5 => ?_
  refine W.seqK fun K6 hK6 => ?_
  refine W.region ?_
  refine WL.move (v := .slice a2 x1.length c3) rfl ?_
  refine WL.nilEq UN25 rfl ?_
  rcases a2 with _ | ad7
  · obtain rfl := hs.nilx 0 rfl
    have hf : some [] = some r := by simpa [app, idx, cut] using hf
    refine WL.nil ?_
    refine hK6 _ _ ?_
    refine W.cond_true rfl ?_
    refine W.seqK fun K8 hK8 => ?_
    refine W.region ?_
    refine WL.assign (v := .slice none 0 0) rfl ?_
    refine WL.nil ?_
    refine hK8 _ _ ?_
    refine W.ret ?_
    have hr := Option.some.inj hf; subst hr
    have hs := hs.ownNil t_network_Packet 51
    exact ⟨_, resOk_one rfl rfl, (none, 0, 0), rfl, (hs.mask [true]).pick []⟩
  · refine WL.nil ?_
    refine hK6 _ _ ?_
    refine W.cond_false rfl ?_
    refine W.skip ?_
    refine hK5 _ _ ?_
    refine W.seqK fun K9 hK9 => ?_
    refine W.region ?_
    refine WL.buildSlice0 hs UN25 TI51 (fun a10 w hs => ?_)
    refine WL.move (v := .slice (some ad7) x1.length c3) rfl ?_
    have hs := hs.ownEmpty t_network_Packet 51 a10
    obtain ⟨x11, hxx11, hf⟩ := bindE hf
    obtain ⟨hbx11, hex11⟩ := appE hxx11
    refine WL.appendS (zs := x11) hs 0 rfl 0 rfl UN25 UN25 EI51 rfl rfl hbx11 (by omega) hex11 (fun v12 w hs => ?_)
    obtain ⟨a13, n15, c14, rfl⟩ := hs.ownv3 0 rfl
    refine WL.assign (v := .slice a13 n15 c14) rfl ?_
    refine WL.nil ?_
    refine hK9 _ _ ?_
    refine W.ret ?_
    have hr := Option.some.inj hf; subst hr
    exact ⟨_, resOk_one rfl rfl, (a13, n15, c14), rfl, (hs.mask [true]).pick []⟩
theorem slices_Clone_Packet.callc {ok : Nat → Prop} {w0 : World} {x1 : List network_Packet} {a2 : Option Addr} {c3 : Nat} {r : List network_Packet} (hf : slices_Clone_Packet x1 = some r) (i0 : (vl (tSlice t_network_Packet) x1 (.slice a2 x1.length c3)).holds ok w0) :
    Calls Try.prog 48 #[.slice a2 x1.length c3] w0 fun e w' => ∃ v, e = .returned v ∧ ∃ y : (Option Addr × Nat), v = .slice y.1 r.length y.2 ∧ St ok (bz w0) w' [vl (tSlice t_network_Packet) r (.slice y.1 r.length y.2)] [] := by
  refine (slices_Clone_Packet.calls (ok := ok) (w0 := w0) (x1 := x1) hf i0).mono ?_
  rintro e w' ⟨v, rfl, ⟨a16, n17, c18⟩, rfl, hs⟩
  obtain rfl := hs.ownLen 0 rfl
  have hs := hs.freezeOwn 0 rfl
  exact ⟨_, rfl, (a16, c18), rfl, hs.pick [0]⟩
/-! slices.Clone[[]elasticstore/network.Side,elasticstore/network.Side]: function 49 -/
theorem slices_Clone_Side.calls {ok : Nat → Prop} {w0 : World} {x1 : List network_Side} {a2 : Option Addr} {c3 : Nat} {r : List network_Side} (hf : slices_Clone_Side x1 = some r) (i0 : (vl (tSlice t_network_Side) x1 (.slice a2 x1.length c3)).holds ok w0) :
    Calls Try.prog 49 #[.slice a2 x1.length c3] w0 fun e w' => ∃ v, e = .returned v ∧ ∃ y : (Option Addr × Nat × Nat), v = .slice y.1 y.2.1 y.2.2 ∧ St ok (bz w0) w' [] [own t_network_Side 69 (.slice y.1 y.2.1 y.2.2) r] := by
  unfold slices_Clone_Side at hf
  refine calls_of_W (fn := Try.f49) (N := 8) Try.func49 rfl Try.ntmps49 rfl ?_
  have hs : St ok (bz w0) w0 [vl (tSlice t_network_Side) x1 (.slice a2 x1.length c3)] [] := St.init (All.cons i0 All.nil)
  clear i0
  refine W.seqK fun K4 hK4 => ?_
  refine W.region ?_
  refine WL.assign (v := .slice none 0 0) rfl ?_
  refine WL.nil ?_
  refine hK4 _ _ ?_
  refine W.seqK fun K5 hK5 => ?_
  refine W.seqK fun K6 hK6 => ?_
  refine W.region ?_
  refine WL.move (v := .slice a2 x1.length c3) rfl ?_
  refine WL.nilEq UN23 rfl ?_
  rcases a2 with _ | ad7
  · obtain rfl := hs.nilx 0 rfl
    have hf : some [] = some r := by simpa [app, idx, cut] using hf
    refine WL.nil ?_
    refine hK6 _ _ ?_
    refine W.cond_true rfl ?_
    refine W.seqK fun K8 hK8 => ?_
    refine W.region ?_
    refine WL.assign (v := .slice none 0 0) rfl ?_
    refine WL.nil ?_
    refine hK8 _ _ ?_
    refine W.ret ?_
    have hr := Option.some.inj hf; subst hr
    have hs := hs.ownNil t_network_Side 69
    exact ⟨_, resOk_one rfl rfl, (none, 0, 0), rfl, (hs.mask [true]).pick []⟩
  · refine WL.nil ?_
    refine hK6 _ _ ?_
    refine W.cond_false rfl ?_
    refine W.skip ?_
    refine hK5 _ _ ?_
    refine W.seqK fun K9 hK9 => ?_
    refine W.region ?_
    refine WL.buildSlice0 hs UN23 TI69 (fun a10 w hs => ?_)
    refine WL.move (v := .slice (some ad7) x1.length c3) rfl ?_
    have hs := hs.ownEmpty t_network_Side 69 a10
    obtain ⟨x11, hxx11, hf⟩ := bindE hf
    obtain ⟨hbx11, hex11⟩ := appE hxx11
    refine WL.appendS (zs := x11) hs 0 rfl 0 rfl UN23 UN23 EI69 rfl rfl hbx11 (by omega) hex11 (fun v12 w hs => ?_)
    obtain ⟨a13, n15, c14, rfl⟩ := hs.ownv3 0 rfl
    refine WL.assign (v := .slice a13 n15 c14) rfl ?_
    refine WL.nil ?_
    refine hK9 _ _ ?_
    refine W.ret ?_
    have hr := Option.some.inj hf; subst hr
    exact ⟨_, resOk_one rfl rfl, (a13, n15, c14), rfl, (hs.mask [true]).pick []⟩
theorem slices_Clone_Side.callc {ok : Nat → Prop} {w0 : World} {x1 : List network_Side} {a2 : Option Addr} {c3 : Nat} {r : List network_Side} (hf : slices_Clone_Side x1 = some r) (i0 : (vl (tSlice t_network_Side) x1 (.slice a2 x1.length c3)).holds ok w0) :
    Calls Try.prog 49 #[.slice a2 x1.length c3] w0 fun e w' => ∃ v, e = .returned v ∧ ∃ y : (Option Addr × Nat), v = .slice y.1 r.length y.2 ∧ St ok (bz w0) w' [vl (tSlice t_network_Side) r (.slice y.1 r.length y.2)] [] := by
  refine (slices_Clone_Side.calls (ok := ok) (w0 := w0) (x1 := x1) hf i0).mono ?_
  rintro e w' ⟨v, rfl, ⟨a16, n17, c18⟩, rfl, hs⟩
  obtain rfl := hs.ownLen 0 rfl
  have hs := hs.freezeOwn 0 rfl
  exact ⟨_, rfl, (a16, c18), rfl, hs.pick [0]⟩
/-! elasticstore/network.clone: function 27 -/
theorem network_clone.calls {ok : Nat → Prop} {w0 : World} {x1 : network_Network} {v2 : Value} {r : network_Network} (hf : network_clone x1 = some r) (i0 : (vl t_network_Network x1 v2).holds ok w0) :
    Calls Try.prog 27 #[v2] w0 fun e w' => ∃ v, e = .returned v ∧ ∃ y : (Option Addr × Nat × Nat) × (Option Addr × Nat × Nat), v = .agg ([.int .i64 r.Next, .slice y.1.1 y.1.2.1 y.1.2.2, .slice y.2.1 y.2.2.1 y.2.2.2] : List Value).toArray ∧ St ok (bz w0) w' [] [own t_network_Packet 51 (.slice y.1.1 y.1.2.1 y.1.2.2) r.Packets, own t_network_Side 69 (.slice y.2.1 y.2.2.1 y.2.2.2) r.Sides] := by
  unfold network_clone at hf
  refine calls_of_W (fn := Try.f27) (N := 12) Try.func27 rfl Try.ntmps27 rfl ?_
  have hs : St ok (bz w0) w0 [vl t_network_Network x1 v2] [] := St.init (All.cons i0 All.nil)
  clear i0
  obtain ⟨cs3, hl4, rfl⟩ := hs.aggv (n := 3) 0 rfl rfl rfl
  refine W.seqK fun K5 hK5 => ?_
  refine W.region ?_
  obtain ⟨a7, c8, a9, c10, rfl⟩ := open_network_Network hs 0 rfl
  have hs := hs.add (it := vl (tSlice t_network_Packet) x1.Packets (.slice a7 (x1.Packets).length c8)) fun ok hA => V_fld F_network_Network_Packets (hA.get 0 rfl) rfl rfl rfl
  have hs := hs.add (it := vl (tSlice t_network_Side) x1.Sides (.slice a9 (x1.Sides).length c10)) fun ok hA => V_fld F_network_Network_Sides (hA.get 1 rfl) rfl rfl rfl
  refine WL.box (vs := [.int .i64 x1.Next, .slice a7 (x1.Packets).length c8, .slice a9 (x1.Sides).length c10]) hs rfl rfl (fun g6 w hs => ?_)
  refine WL.alloc hs ZV27 (fun g11 w hs => ?_)
  refine WL.nil ?_
  refine hK5 _ _ ?_
  refine W.seqK fun K12 hK12 => ?_
  obtain ⟨x13, hxx13, hf⟩ := bindE hf
  obtain ⟨x17, hxx17, hf⟩ := bindE hf
  refine W.any (by kernel_rfl) 7 3 [true, true, true, true, true, true, true, false, false, false] rfl rfl (poAt [pv (.pointer (some ⟨g6, 1, none⟩)), pv (.slice a7 (x1.Packets).length c8), pq (fun y : (Option Addr × Nat × Nat) => .slice y.1 y.2.1 y.2.2) (fun v => []) (fun v => [own t_network_Packet 51 v x13]), pv (.pointer (some ⟨g6, 2, none⟩)), pv (.slice a9 (x1.Sides).length c10), pq (fun y : (Option Addr × Nat × Nat) => .slice y.1 y.2.1 y.2.2) (fun v => []) (fun v => [own t_network_Side 69 v x17]), pv (.pointer (some ⟨g6, 1, none⟩))]) (Λ := [blk g11 27 [.int .i64 0, .slice none 0 0, .slice none 0 0], blk g6 27 [.int .i64 x1.Next, .slice a7 (x1.Packets).length c8, .slice a9 (x1.Sides).length c10]]) hs (by kernel_rfl) (by kernel_rfl) (by kernel_rfl) ⟨⟨⟨⟨⟨⟨⟨trivial, ?_⟩, ?_⟩, ?_⟩, ?_⟩, ?_⟩, ?_⟩, ?_⟩ ?_
  · intro ρ w Γx Λx hs hu hp
    refine WL.fieldAddr (m := 1) (hu 1 rfl) FA27_1 rfl ?_
    exact WL.nil ⟨rfl, _, rfl, rfl, hs.cutG 0 0⟩
  · intro ρ w Γx Λx hs hu hp
    have e21 : ρ 3 = .pointer (some ⟨g6, 1, none⟩) := (hp 0 rfl).1
    refine WL.load1 (v := .slice a7 (x1.Packets).length c8) hs (Λx.length + 1) (getApp rfl) TI25 e21 rfl ?_
    exact WL.nil ⟨rfl, _, rfl, rfl, hs.cutG 0 0⟩
  · intro ρ w Γx Λx hs hu hp
    have e22 : ρ 4 = .slice a7 (x1.Packets).length c8 := (hp 1 rfl).1
    refine WL.call (vs := [.slice a7 (x1.Packets).length c8]) hs FN48 ⟨e22, trivial⟩ (fun ok hA => slices_Clone_Packet.calls (x1 := x1.Packets) hxx13 (hA.get (Γx.length + 1) (getApp rfl))) ?_
    rintro ⟨a14, n15, c16⟩ w hs
    exact WL.nil ⟨rfl, _, rfl, ⟨(a14, n15, c16), rfl⟩, hs.cutG 0 0⟩
  · intro ρ w Γx Λx hs hu hp
    refine WL.fieldAddr (m := 2) (hu 1 rfl) FA27_2 rfl ?_
    exact WL.nil ⟨rfl, _, rfl, rfl, hs.cutG 0 0⟩
  · intro ρ w Γx Λx hs hu hp
    have e23 : ρ 6 = .pointer (some ⟨g6, 2, none⟩) := (hp 3 rfl).1
    refine WL.load1 (v := .slice a9 (x1.Sides).length c10) hs (Λx.length + 1) (getApp rfl) TI23 e23 rfl ?_
    exact WL.nil ⟨rfl, _, rfl, rfl, hs.cutG 0 0⟩
  · intro ρ w Γx Λx hs hu hp
    have e24 : ρ 7 = .slice a9 (x1.Sides).length c10 := (hp 4 rfl).1
    refine WL.call (vs := [.slice a9 (x1.Sides).length c10]) hs FN49 ⟨e24, trivial⟩ (fun ok hA => slices_Clone_Side.calls (x1 := x1.Sides) hxx17 (hA.get (Γx.length + 0) (getApp rfl))) ?_
    rintro ⟨a18, n19, c20⟩ w hs
    exact WL.nil ⟨rfl, _, rfl, ⟨(a18, n19, c20), rfl⟩, hs.cutG 0 0⟩
  · intro ρ w Γx Λx hs hu hp
    refine WL.fieldAddr (m := 1) (hu 1 rfl) FA27_1 rfl ?_
    exact WL.nil ⟨rfl, _, rfl, rfl, hs.cutG 0 0⟩
  · intro ρ w hs hu25 hp
    obtain ⟨⟨⟨⟨⟨⟨⟨_, hp0_⟩, hp1_⟩, hp2_⟩, hp3_⟩, hp4_⟩, hp5_⟩, hp6_⟩ := hp
    have hs : St ok (bz w0) w [vl (tSlice t_network_Side) x1.Sides (.slice a9 (x1.Sides).length c10), vl (tSlice t_network_Packet) x1.Packets (.slice a7 (x1.Packets).length c8), vl t_network_Network x1 (.agg [.int .i64 x1.Next, .slice a7 (x1.Packets).length c8, .slice a9 (x1.Sides).length c10].toArray)] [own t_network_Side 69 ((ρ 8)) x17, own t_network_Packet 51 ((ρ 5)) x13, blk g11 27 [.int .i64 0, .slice none 0 0, .slice none 0 0], blk g6 27 [.int .i64 x1.Next, .slice a7 (x1.Packets).length c8, .slice a9 (x1.Sides).length c10]] := hs
    have e26 : ρ 9 = .pointer (some ⟨g6, 1, none⟩) := hp6_
    obtain ⟨⟨a27, n29, c28⟩, e30⟩ := hp5_
    have e30 : ρ 8 = .slice a27 n29 c28 := e30
    try rw [e30] at hs
    have e31 : ρ 7 = .slice a9 (x1.Sides).length c10 := hp4_
    have e32 : ρ 6 = .pointer (some ⟨g6, 2, none⟩) := hp3_
    obtain ⟨⟨a33, n35, c34⟩, e36⟩ := hp2_
    have e36 : ρ 5 = .slice a33 n35 c34 := e36
    try rw [e36] at hs
    have e37 : ρ 4 = .slice a7 (x1.Packets).length c8 := hp1_
    have e38 : ρ 3 = .pointer (some ⟨g6, 1, none⟩) := hp0_
    refine WA.step [7] (by kernel_rfl) (by simp) ⟨?_, trivial⟩
    refine WL.store (vs := [.slice a33 n35 c34]) (cs' := [.int .i64 x1.Next, .slice a33 n35 c34, .slice a9 (x1.Sides).length c10]) hs 3 rfl TI25 e26 e36 rfl rfl (ones_of rfl) (Nat.le_of_ble_eq_true rfl) rfl (fun w hs => ?_)
    refine WL.nil ⟨rfl, _, rfl, ?_⟩
    refine WA.step [8] (by kernel_rfl) (by simp) ⟨?_, trivial⟩
    refine WL.fieldAddr (m := 2) (hu25 1 rfl) FA27_2 rfl ?_
    refine WL.nil ⟨rfl, _, rfl, ?_⟩
    refine WA.step [9] (by kernel_rfl) (by simp) ⟨?_, trivial⟩
    refine WL.store (vs := [.slice a27 n29 c28]) (cs' := [.int .i64 x1.Next, .slice a33 n35 c34, .slice a27 n29 c28]) hs 3 rfl TI23 rfl e30 rfl rfl (ones_of rfl) (Nat.le_of_ble_eq_true rfl) rfl (fun w hs => ?_)
    refine WL.nil ⟨rfl, _, rfl, ?_⟩
    refine WA.done (by kernel_rfl) ?_
    refine hK12 _ _ ?_
    refine W.seqK fun K39 hK39 => ?_
    refine W.region ?_
    refine WL.loadN (vs := [.int .i64 x1.Next, .slice a33 n35 c34, .slice a27 n29 c28]) hs 3 rfl TI27 (hu25 1 rfl) rfl rfl ?_
    refine WL.storeAll (vs := [.int .i64 x1.Next, .slice a33 n35 c34, .slice a27 n29 c28]) hs 2 rfl TI27 (hu25 2 rfl) rfl rfl rfl (ones_of rfl) rfl (fun w hs => ?_)
    refine WL.nil ?_
    refine hK39 _ _ ?_
    refine W.ret ?_
    have hr := Option.some.inj hf; subst hr
    have hs := hs.front 0 rfl
    have hs := hs.front 1 rfl
    exact ⟨_, resOk_one rfl (res_all hs 2 rfl TI27 (hu25 2 rfl) rfl), ((a33, n35, c34), (a27, n29, c28)), rfl, (hs.mask [true, true]).pick []⟩
theorem network_clone.callc {ok : Nat → Prop} {w0 : World} {x1 : network_Network} {v2 : Value} {r : network_Network} (hf : network_clone x1 = some r) (i0 : (vl t_network_Network x1 v2).holds ok w0) :
    Calls Try.prog 27 #[v2] w0 fun e w' => ∃ v, e = .returned v ∧ ∃ y : List Value, v = .agg y.toArray ∧ St ok (bz w0) w' [vl t_network_Network r (.agg y.toArray)] [] := by
  refine (network_clone.calls (ok := ok) (w0 := w0) (x1 := x1) hf i0).mono ?_
  rintro e w' ⟨v, rfl, ⟨⟨a40, n41, c42⟩, ⟨a43, n44, c45⟩⟩, rfl, hs⟩
  obtain rfl := hs.ownLen 0 rfl
  have hs := hs.freezeOwn 0 rfl
  obtain rfl := hs.ownLen 0 rfl
  have hs := hs.freezeOwn 0 rfl
  have hs := hs.add (it := vl t_network_Network (⟨r.Next, r.Packets, r.Sides⟩ : network_Network) (.agg [.int .i64 r.Next, .slice a40 (r.Packets).length c42, .slice a43 (r.Sides).length c45].toArray)) fun ok hA => V_agg (show t_network_Network.R ok _ _ _ from ⟨[.int .i64 r.Next], [.slice a40 (r.Packets).length c42, .slice a43 (r.Sides).length c45], rfl, rfl, ⟨[.slice a40 (r.Packets).length c42], [.slice a43 (r.Sides).length c45], rfl, (R_one (hA.get 1 rfl)), (R_one (hA.get 0 rfl))⟩⟩) rfl
  exact ⟨_, rfl, [.int .i64 r.Next, .slice a40 (r.Packets).length c42, .slice a43 (r.Sides).length c45], rfl, hs.pick [0]⟩
/-! elasticstore/network.Send: function 10 -/
theorem network_Send.calls {ok : Nat → Prop} {w0 : World} {x1 : network_Network} {x5 : List api_Message} {v2 : Value} {a6 : Option Addr} {c7 : Nat} {r : network_Network} (hf : network_Send x1 x5 = some r) (i0 : (vl t_network_Network x1 v2).holds ok w0) (i1 : (vl (tSlice t_api_Message) x5 (.slice a6 x5.length c7)).holds ok w0) :
    Calls Try.prog 10 #[v2, .slice a6 x5.length c7] w0 fun e w' => ∃ v, e = .returned v ∧ ∃ y : (Option Addr × Nat × Nat) × (Option Addr × Nat × Nat), v = .agg ([.int .i64 r.Next, .slice y.1.1 y.1.2.1 y.1.2.2, .slice y.2.1 y.2.2.1 y.2.2.2] : List Value).toArray ∧ St ok (bz w0) w' [] [own t_network_Packet 51 (.slice y.1.1 y.1.2.1 y.1.2.2) r.Packets, own t_network_Side 69 (.slice y.2.1 y.2.2.1 y.2.2.2) r.Sides] := by
  unfold network_Send at hf
  refine calls_of_W (fn := Try.f10) (N := 34) Try.func10 rfl Try.ntmps10 rfl ?_
  have hs : St ok (bz w0) w0 [vl t_network_Network x1 v2, vl (tSlice t_api_Message) x5 (.slice a6 x5.length c7)] [] := St.init (All.cons i0 (All.cons i1 All.nil))
  clear i0 i1
  obtain ⟨cs3, hl4, rfl⟩ := hs.aggv (n := 3) 0 rfl rfl rfl
  refine W.seqK fun K8 hK8 => ?_
  refine W.region ?_
  obtain ⟨a10, c11, a12, c13, rfl⟩ := open_network_Network hs 0 rfl
  have hs := hs.add (it := vl (tSlice t_network_Packet) x1.Packets (.slice a10 (x1.Packets).length c11)) fun ok hA => V_fld F_network_Network_Packets (hA.get 0 rfl) rfl rfl rfl
  have hs := hs.add (it := vl (tSlice t_network_Side) x1.Sides (.slice a12 (x1.Sides).length c13)) fun ok hA => V_fld F_network_Network_Sides (hA.get 1 rfl) rfl rfl rfl
  refine WL.box (vs := [.int .i64 x1.Next, .slice a10 (x1.Packets).length c11, .slice a12 (x1.Sides).length c13]) hs rfl rfl (fun g9 w hs => ?_)
  refine WL.alloc hs ZV27 (fun g14 w hs => ?_)
  refine WL.nil ?_
  refine hK8 _ _ ?_
  refine W.seqK fun K15 hK15 => ?_
  refine W.region ?_
  refine WL.loadN (vs := [.int .i64 x1.Next, .slice a10 (x1.Packets).length c11, .slice a12 (x1.Sides).length c13]) hs 1 rfl TI27 rfl rfl rfl ?_
  have hs := hs.add (it := vl t_network_Network (⟨x1.Next, x1.Packets, x1.Sides⟩ : network_Network) (.agg [.int .i64 x1.Next, .slice a10 (x1.Packets).length c11, .slice a12 (x1.Sides).length c13].toArray)) fun ok hA => V_agg (show t_network_Network.R ok _ _ _ from ⟨[.int .i64 x1.Next], [.slice a10 (x1.Packets).length c11, .slice a12 (x1.Sides).length c13], rfl, rfl, ⟨[.slice a10 (x1.Packets).length c11], [.slice a12 (x1.Sides).length c13], rfl, (R_one (hA.get 1 rfl)), (R_one (hA.get 0 rfl))⟩⟩) rfl
  obtain ⟨x16, hxx16, hf⟩ := bindE hf
  refine WL.call (vs := [.agg ([.int .i64 x1.Next, .slice a10 (x1.Packets).length c11, .slice a12 (x1.Sides).length c13] : List Value).toArray]) hs FN27 ⟨rfl, trivial⟩ (fun ok hA => network_clone.calls (x1 := (⟨x1.Next, x1.Packets, x1.Sides⟩ : network_Network)) hxx16 (hA.get 0 rfl)) ?_
  rintro ⟨⟨a17, n18, c19⟩, ⟨a20, n21, c22⟩⟩ w hs
  refine WL.storeAll (vs := [.int .i64 x16.Next, .slice a17 n18 c19, .slice a20 n21 c22]) hs 3 rfl TI27 rfl rfl rfl rfl (ones_of rfl) rfl (fun w hs => ?_)
  refine WL.nil ?_
  refine hK15 _ _ ?_
  refine W.seqK fun K23 hK23 => ?_
  have Jk30 : ∀ (x25 : Int) (x26 : List network_Packet) (a27 : Option Addr) (c28 : Nat) (n29 : Nat) (ρ : Env) (w : World), ρ 2 = .pointer (some ⟨g9, 0, none⟩) → ρ 4 = .pointer (some ⟨g14, 0, none⟩) → St ok (bz w0) w [] [own t_network_Packet 51 (.slice a27 n29 c28) x26, own t_network_Side 69 (.slice a20 n21 c22) x16.Sides, blk g14 27 [.int .i64 0, .slice none 0 0, .slice none 0 0], blk g9 27 [.int .i64 x25, .slice a27 n29 c28, .slice a20 n21 c22]] → network_Send.j1 x16 x25 x26 = some r → K23 ρ w := by
    intro x25 x26 a27 c28 n29 ρ w h24_2 h24_4 hs hf
    refine hK23 _ _ ?_
    unfold network_Send.j1 at hf
    refine W.seqK fun K31 hK31 => ?_
    refine W.region ?_
    refine WL.loadN (vs := [.int .i64 x25, .slice a27 n29 c28, .slice a20 n21 c22]) hs 3 rfl TI27 h24_2 rfl rfl ?_
    refine WL.storeAll (vs := [.int .i64 x25, .slice a27 n29 c28, .slice a20 n21 c22]) hs 2 rfl TI27 h24_4 rfl rfl rfl (ones_of rfl) rfl (fun w hs => ?_)
    refine WL.nil ?_
    refine hK31 _ _ ?_
    refine W.ret ?_
    have hr := Option.some.inj hf; subst hr
    exact ⟨_, resOk_one rfl (res_all hs 2 rfl TI27 h24_4 rfl), ((a27, n29, c28), (a20, n21, c22)), rfl, (hs.mask [true, true]).pick []⟩
  refine W.seqK fun K32 hK32 => ?_
  refine W.region ?_
  refine WL.move (v := .slice a6 x5.length c7) rfl ?_
  refine WL.len (v := .slice a6 x5.length c7) rfl (len_slice UN30) ?_
  refine WL.move (v := .int .i64 0) rfl ?_
  refine WL.nil ?_
  refine hK32 _ _ ?_
  refine W.block ?_
  obtain ⟨bs40, hbs40, hfs40⟩ := bindE hf
  refine W.loop hbs40 (fun s ρ w => match s with | (x34, x35, x36) => ∃ (a37 : Option Addr), ∃ (c38 : Nat), ∃ (n39 : Nat), ρ 2 = .pointer (some ⟨g9, 0, none⟩) ∧ ρ 4 = .pointer (some ⟨g14, 0, none⟩) ∧ ρ 9 = .slice a6 x5.length c7 ∧ ρ 10 = .int .i64 (x5.length : Int) ∧ ρ 11 = .int .i64 x34 ∧ St ok (bz w0) w [vl (tSlice t_api_Message) x5 (.slice a6 x5.length c7)] [own t_network_Packet 51 (.slice a37 n39 c38) x36, own t_network_Side 69 (.slice a20 n21 c22) x16.Sides, blk g14 27 [.int .i64 0, .slice none 0 0, .slice none 0 0], blk g9 27 [.int .i64 x35, .slice a37 n39 c38, .slice a20 n21 c22]]) ⟨a17, c19, n18, rfl, rfl, rfl, rfl, rfl, (hs.mask [true, true, true, true]).pick [4]⟩ ?_
  intro s ρ w os40 hI hf hbbs40
  obtain ⟨x34, x35, x36⟩ := s
  obtain ⟨a37, c38, n39, h33_2, h33_4, h33_9, h33_10, h33_11, hs⟩ := hI
  unfold network_Send.l1 at hf
  refine W.seqK fun K41 hK41 => ?_
  refine W.region ?_
  refine WL.bin (v := .bool (decide (x34 < (x5.length : Int)))) h33_11 h33_10 (ib_lss _ _ _) ?_
  refine WL.nil ?_
  refine hK41 _ _ ?_
  refine W.seqK fun K42 hK42 => ?_
  rcases iteE hf with ⟨hc43, hf⟩ | ⟨hc43, hf⟩
  · refine W.cond_true (bool_tr rfl hc43) ?_
    refine W.skip ?_
    refine hK42 _ _ ?_
    refine W.seqK fun K44 hK44 => ?_
    refine W.block ?_
    refine W.seqK fun K45 hK45 => ?_
    refine W.region ?_
    obtain ⟨x46, hxx46, hf⟩ := bindE hf
    refine WL.indexAddr hs 0 rfl UN30 TI49 h33_9 h33_11 hxx46 (fun ad47 hs => ?_)
    refine WL.loadP hs 0 rfl TI49 (.inl rfl) rfl (fun v48 hs => ?_)
    obtain ⟨cs49, hl50, rfl⟩ := hs.aggv (n := 18) 0 rfl rfl rfl
    refine WL.alloc hs ZV49 (fun g51 w hs => ?_)
    refine WL.storeAll (vs := cs49) hs 0 rfl TI49 rfl rfl rfl hl50 (hs.ones 0 rfl rfl) rfl (fun w hs => ?_)
    refine WL.nil ?_
    refine hK45 _ _ ?_
    refine W.seqK fun K52 hK52 => ?_
    refine W.seqK fun K53 hK53 => ?_
    refine W.region ?_
    refine WL.fieldAddr (m := 1) h33_2 FA27_1 rfl ?_
    refine WL.load1 (v := .slice a37 n39 c38) hs 4 rfl TI25 rfl rfl ?_
    refine WL.len (v := .slice a37 n39 c38) rfl (len_own hs 1 rfl UN25) ?_
    refine WL.bin (v := .bool (decide (4096 ≤ (x36.length : Int)))) rfl rfl (ib_geq _ _ _) ?_
    refine WL.nil ?_
    refine hK53 _ _ ?_
    rcases iteE hf with ⟨hc54, hf⟩ | ⟨hc54, hf⟩
    · refine W.cond_true (bool_tr rfl hc54) ?_
      refine W.exit ?_
      have hr := Option.some.inj hf; subst hr
      have hr := hbbs40 _ rfl; subst hr
      have hf := hfs40
      exact Jk30 x35 x36 a37 c38 n39 _ _ h33_2 h33_4 ((hs.mask [false, true, true, true, true]).pick []) hf
    · refine W.cond_false (bool_tr rfl hc54) ?_
      refine W.skip ?_
      refine hK52 _ _ ?_
      refine W.seqK fun K55 hK55 => ?_
      refine W.region ?_
      refine WL.fieldAddr (m := 1) h33_2 FA27_1 rfl ?_
      refine WL.load1 (v := .slice a37 n39 c38) hs 4 rfl TI25 rfl rfl ?_
      refine WL.fieldAddr (m := 0) h33_2 FA27_0 rfl ?_
      refine WL.load1 (v := .int .i64 x35) hs 4 rfl TI3 rfl rfl ?_
      refine WL.loadAll hs 0 rfl TI49 rfl hl50 ?_
      refine WL.build (vs := [(0, .int .i64 x35), (1, .agg cs49.toArray)]) (cs := ([.int .i64 x35] : List Value) ++ cs49) ⟨⟨rfl, rfl⟩, ⟨⟨rfl, rfl⟩, trivial⟩⟩ (bld PL51 (by simp [fillL, Value.cells, hl50])) ?_
      refine WL.buildSlice (n := 1) (vs := [(0, .agg (([.int .i64 x35] : List Value) ++ cs49 : List Value).toArray)]) (cs := ([.int .i64 x35] : List Value) ++ cs49) hs ⟨⟨rfl, rfl⟩, trivial⟩ (bls PS25 (by decide) (by simp [fillS, fillL, Value.cells, hl50])) (fun g56 w hs => ?_)
      obtain ⟨x57, hxx57, hf⟩ := bindE hf
      obtain ⟨hbx57, hex57⟩ := appE hxx57
      refine WL.append (ys := [(⟨x35, x46⟩ : network_Packet)]) (zs := x57) hs 2 rfl 0 rfl UN25 EI51 rfl rfl (fun ok hA => (Cells.one (T := t_network_Packet) (show t_network_Packet.R ok _ (⟨x35, x46⟩ : network_Packet) _ from ⟨[.int .i64 x35], cs49, by simp, rfl, (R_agg (hA.get 0 rfl) rfl)⟩))) hbx57 (by omega) hex57 (fun v58 w hs => ?_)
      obtain ⟨a59, n61, c60, rfl⟩ := hs.ownv3 2 rfl
      refine WL.fieldAddr (m := 1) h33_2 FA27_1 rfl ?_
      refine WL.store (vs := [.slice a59 n61 c60]) (cs' := [.int .i64 x35, .slice a59 n61 c60, .slice a20 n21 c22]) hs 5 rfl TI25 rfl rfl rfl rfl (ones_of rfl) (Nat.le_of_ble_eq_true rfl) rfl (fun w hs => ?_)
      refine WL.nil ?_
      refine hK55 _ _ ?_
      refine W.region ?_
      refine WL.fieldAddr (m := 0) h33_2 FA27_0 rfl ?_
      refine WL.load1 (v := .int .i64 x35) hs 5 rfl TI3 rfl rfl ?_
      obtain ⟨x62, ex62, hf⟩ := letE hf
      refine WL.bin (v := .int .i64 x62) rfl rfl (ib_as ex62 (ib_add _ _ _)) ?_
      refine WL.fieldAddr (m := 0) h33_2 FA27_0 rfl ?_
      refine WL.store (vs := [.int .i64 x62]) (cs' := [.int .i64 x62, .slice a59 n61 c60, .slice a20 n21 c22]) hs 5 rfl TI3 rfl rfl rfl rfl (ones_of rfl) (Nat.le_of_ble_eq_true rfl) rfl (fun w hs => ?_)
      refine WL.nil ?_
      refine hK44 _ _ ?_
      refine W.region ?_
      obtain ⟨x63, ex63, hf⟩ := letE hf
      refine WL.bin (v := .int .i64 x63) h33_11 rfl (ib_as ex63 (ib_add _ _ _)) ?_
      refine WL.move (v := .int .i64 x63) rfl ?_
      refine WL.nil ?_
      exact ⟨_, (Option.some.inj hf).symm, a59, c60, n61, h33_2, h33_4, h33_9, h33_10, rfl, (hs.mask [false, false, true, true, true, true]).pick [2]⟩
  · refine W.cond_false (bool_tr rfl hc43) ?_
    refine W.exit ?_
    have hr := Option.some.inj hf; subst hr
    have hr := hbbs40 _ rfl; subst hr
    have hf := hfs40
    exact Jk30 x35 x36 a37 c38 n39 _ _ h33_2 h33_4 ((hs.mask [true, true, true, true]).pick []) hf
theorem network_Send.callc {ok : Nat → Prop} {w0 : World} {x1 : network_Network} {x5 : List api_Message} {v2 : Value} {a6 : Option Addr} {c7 : Nat} {r : network_Network} (hf : network_Send x1 x5 = some r) (i0 : (vl t_network_Network x1 v2).holds ok w0) (i1 : (vl (tSlice t_api_Message) x5 (.slice a6 x5.length c7)).holds ok w0) :
    Calls Try.prog 10 #[v2, .slice a6 x5.length c7] w0 fun e w' => ∃ v, e = .returned v ∧ ∃ y : List Value, v = .agg y.toArray ∧ St ok (bz w0) w' [vl t_network_Network r (.agg y.toArray)] [] := by
  refine (network_Send.calls (ok := ok) (w0 := w0) (x1 := x1) (x5 := x5) hf i0 i1).mono ?_
  rintro e w' ⟨v, rfl, ⟨⟨a66, n67, c68⟩, ⟨a69, n70, c71⟩⟩, rfl, hs⟩
  obtain rfl := hs.ownLen 0 rfl
  have hs := hs.freezeOwn 0 rfl
  obtain rfl := hs.ownLen 0 rfl
  have hs := hs.freezeOwn 0 rfl
  have hs := hs.add (it := vl t_network_Network (⟨r.Next, r.Packets, r.Sides⟩ : network_Network) (.agg [.int .i64 r.Next, .slice a66 (r.Packets).length c68, .slice a69 (r.Sides).length c71].toArray)) fun ok hA => V_agg (show t_network_Network.R ok _ _ _ from ⟨[.int .i64 r.Next], [.slice a66 (r.Packets).length c68, .slice a69 (r.Sides).length c71], rfl, rfl, ⟨[.slice a66 (r.Packets).length c68], [.slice a69 (r.Sides).length c71], rfl, (R_one (hA.get 1 rfl)), (R_one (hA.get 0 rfl))⟩⟩) rfl
  exact ⟨_, rfl, [.int .i64 r.Next, .slice a66 (r.Packets).length c68, .slice a69 (r.Sides).length c71], rfl, hs.pick [0]⟩
/-! cmp.isNaN[int]: function 52 -/
theorem cmp_isNaN_int.calls {ok : Nat → Prop} {w0 : World} {x1 : Int}  {r : Bool} (hf : cmp_isNaN_int x1 = some r)  :
    Calls Try.prog 52 #[.int .i64 x1] w0 fun e w' => ∃ v, e = .returned v ∧ ∃ y : Unit, v = .bool r ∧ St ok (bz w0) w' [] [] := by
  unfold cmp_isNaN_int at hf
  refine calls_of_W (fn := Try.f52) (N := 6) Try.func52 rfl Try.ntmps52 rfl ?_
  have hs : St ok (bz w0) w0 [] [] := St.init All.nil
  refine W.seqK fun K2 hK2 => ?_
  refine W.region ?_
  refine WL.assign (v := .bool false) rfl ?_
  refine WL.nil ?_
  refine hK2 _ _ ?_
  refine W.seqK fun K3 hK3 => ?_
  refine W.region ?_
  refine WL.move (v := .int .i64 x1) rfl ?_
  refine WL.move (v := .int .i64 x1) rfl ?_
  refine WL.bin (v := .bool (x1 != x1)) rfl rfl (ib_neq _ _ _) ?_
  refine WL.assign (v := .bool (x1 != x1)) rfl ?_
  refine WL.nil ?_
  refine hK3 _ _ ?_
  refine W.ret ?_
  have hr := Option.some.inj hf; subst hr
  exact ⟨_, resOk_one rfl rfl, (), rfl, (hs.mask []).pick []⟩
/-! cmp.Compare[int]: function 30 -/
theorem cmp_Compare_int.calls {ok : Nat → Prop} {w0 : World} {x1 : Int} {x2 : Int}  {r : Int} (hf : cmp_Compare_int x1 x2 = some r)  :
    Calls Try.prog 30 #[.int .i64 x1, .int .i64 x2] w0 fun e w' => ∃ v, e = .returned v ∧ ∃ y : Unit, v = .int .i64 r ∧ St ok (bz w0) w' [] [] := by
  unfold cmp_Compare_int at hf
  refine calls_of_W (fn := Try.f30) (N := 20) Try.func30 rfl Try.ntmps30 rfl ?_
  have hs : St ok (bz w0) w0 [] [] := St.init All.nil
  refine W.seqK fun K3 hK3 => ?_
  refine W.region ?_
  refine WL.assign (v := .int .i64 0) rfl ?_
  refine WL.nil ?_
  refine hK3 _ _ ?_
  refine W.seqK fun K4 hK4 => ?_
  refine W.region ?_
  refine WL.move (v := .int .i64 x1) rfl ?_
  obtain ⟨x5, hxx5, hf⟩ := bindE hf
  refine WL.call (vs := [.int .i64 x1]) hs FN52 ⟨rfl, trivial⟩ (fun ok hA => cmp_isNaN_int.calls (x1 := x1) hxx5) ?_
  rintro _ w hs
  refine WL.assign (v := .bool x5) rfl ?_
  refine WL.nil ?_
  refine hK4 _ _ ?_
  refine W.seqK fun K6 hK6 => ?_
  refine W.region ?_
  refine WL.move (v := .int .i64 x2) rfl ?_
  obtain ⟨x7, hxx7, hf⟩ := bindE hf
  refine WL.call (vs := [.int .i64 x2]) hs FN52 ⟨rfl, trivial⟩ (fun ok hA => cmp_isNaN_int.calls (x1 := x2) hxx7) ?_
  rintro _ w hs
  refine WL.assign (v := .bool x7) rfl ?_
  refine WL.nil ?_
  refine hK6 _ _ ?_
  refine W.seqK fun K8 hK8 => ?_
  refine W.seqK fun K9 hK9 => ?_
  refine W.region ?_
  refine WL.move (v := .bool x5) rfl ?_
  refine WL.nil ?_
  refine hK9 _ _ ?_
  rcases iteE hf with ⟨hc10, hf⟩ | ⟨hc10, hf⟩
  · refine W.cond_true (bool_tr rfl hc10) ?_
    refine W.seqK fun K11 hK11 => ?_
    refine W.seqK fun K12 hK12 => ?_
    refine W.region ?_
    refine WL.move (v := .bool x7) rfl ?_
    refine WL.nil ?_
    refine hK12 _ _ ?_
    rcases iteE hf with ⟨hc13, hf⟩ | ⟨hc13, hf⟩
    · refine W.cond_true (bool_tr rfl hc13) ?_
      refine W.seqK fun K14 hK14 => ?_
      refine W.region ?_
      refine WL.assign (v := .int .i64 0) rfl ?_
      refine WL.nil ?_
      refine hK14 _ _ ?_
      refine W.ret ?_
      have hr := Option.some.inj hf; subst hr
      exact ⟨_, resOk_one rfl rfl, (), rfl, (hs.mask []).pick []⟩
    · refine W.cond_false (bool_tr rfl hc13) ?_
      refine W.skip ?_
      refine hK11 _ _ ?_
      refine W.seqK fun K15 hK15 => ?_
      refine W.region ?_
      refine WL.assign (v := .int .i64 (-1)) rfl ?_
      refine WL.nil ?_
      refine hK15 _ _ ?_
      refine W.ret ?_
      have hr := Option.some.inj hf; subst hr
      exact ⟨_, resOk_one rfl rfl, (), rfl, (hs.mask []).pick []⟩
  · refine W.cond_false (bool_tr rfl hc10) ?_
    refine W.skip ?_
    refine hK8 _ _ ?_
    refine W.seqK fun K16 hK16 => ?_
    refine W.seqK fun K17 hK17 => ?_
    refine W.region ?_
    refine WL.move (v := .bool x7) rfl ?_
    refine WL.nil ?_
    refine hK17 _ _ ?_
    rcases iteE hf with ⟨hc18, hf⟩ | ⟨hc18, hf⟩
    · refine W.cond_true (bool_tr rfl hc18) ?_
      refine W.seqK fun K19 hK19 => ?_
      refine W.region ?_
      refine WL.assign (v := .int .i64 1) rfl ?_
      refine WL.nil ?_
      refine hK19 _ _ ?_
      refine W.ret ?_
      have hr := Option.some.inj hf; subst hr
      exact ⟨_, resOk_one rfl rfl, (), rfl, (hs.mask []).pick []⟩
    · refine W.cond_false (bool_tr rfl hc18) ?_
      refine W.skip ?_
      refine hK16 _ _ ?_
      refine W.seqK fun K20 hK20 => ?_
      refine W.seqK fun K21 hK21 => ?_
      refine W.region ?_
      refine WL.move (v := .int .i64 x1) rfl ?_
      refine WL.move (v := .int .i64 x2) rfl ?_
      refine WL.bin (v := .bool (decide (x1 < x2))) rfl rfl (ib_lss _ _ _) ?_
      refine WL.nil ?_
      refine hK21 _ _ ?_
      rcases iteE hf with ⟨hc22, hf⟩ | ⟨hc22, hf⟩
      · refine W.cond_true (bool_tr rfl hc22) ?_
        refine W.seqK fun K23 hK23 => ?_
        refine W.region ?_
        refine WL.assign (v := .int .i64 (-1)) rfl ?_
        refine WL.nil ?_
        refine hK23 _ _ ?_
        refine W.ret ?_
        have hr := Option.some.inj hf; subst hr
        exact ⟨_, resOk_one rfl rfl, (), rfl, (hs.mask []).pick []⟩
      · refine W.cond_false (bool_tr rfl hc22) ?_
        refine W.skip ?_
        refine hK20 _ _ ?_
        refine W.seqK fun K24 hK24 => ?_
        refine W.seqK fun K25 hK25 => ?_
        refine W.region ?_
        refine WL.move (v := .int .i64 x1) rfl ?_
        refine WL.move (v := .int .i64 x2) rfl ?_
        refine WL.bin (v := .bool (decide (x2 < x1))) rfl rfl (ib_gtr _ _ _) ?_
        refine WL.nil ?_
        refine hK25 _ _ ?_
        rcases iteE hf with ⟨hc26, hf⟩ | ⟨hc26, hf⟩
        · refine W.cond_true (bool_tr rfl hc26) ?_
          refine W.seqK fun K27 hK27 => ?_
          refine W.region ?_
          refine WL.assign (v := .int .i64 1) rfl ?_
          refine WL.nil ?_
          refine hK27 _ _ ?_
          refine W.ret ?_
          have hr := Option.some.inj hf; subst hr
          exact ⟨_, resOk_one rfl rfl, (), rfl, (hs.mask []).pick []⟩
        · refine W.cond_false (bool_tr rfl hc26) ?_
          refine W.skip ?_
          refine hK24 _ _ ?_
          refine W.seqK fun K28 hK28 => ?_
          refine W.region ?_
          refine WL.assign (v := .int .i64 0) rfl ?_
          refine WL.nil ?_
          refine hK28 _ _ ?_
          refine W.ret ?_
          have hr := Option.some.inj hf; subst hr
          exact ⟨_, resOk_one rfl rfl, (), rfl, (hs.mask []).pick []⟩
/-! elasticstore/network.Partition$1: function 29 -/
theorem network_Partition_1.calls {ok : Nat → Prop} {w0 : World} {x1 : network_Side} {x5 : network_Side} {v2 : Value} {v6 : Value} {r : Int} (hf : network_Partition_1 x1 x5 = some r) (i0 : (vl t_network_Side x1 v2).holds ok w0) (i1 : (vl t_network_Side x5 v6).holds ok w0) :
    Calls Try.prog 29 #[v2, v6] w0 fun e w' => ∃ v, e = .returned v ∧ ∃ y : Unit, v = .int .i64 r ∧ St ok (bz w0) w' [] [] := by
  unfold network_Partition_1 at hf
  refine calls_of_W (fn := Try.f29) (N := 10) Try.func29 rfl Try.ntmps29 rfl ?_
  have hs : St ok (bz w0) w0 [vl t_network_Side x1 v2, vl t_network_Side x5 v6] [] := St.init (All.cons i0 (All.cons i1 All.nil))
  clear i0 i1
  obtain ⟨cs3, hl4, rfl⟩ := hs.aggv (n := 2) 0 rfl rfl rfl
  obtain ⟨cs7, hl8, rfl⟩ := hs.aggv (n := 2) 1 rfl rfl rfl
  refine W.seqK fun K9 hK9 => ?_
  refine W.region ?_
  refine WL.box (vs := cs3) hs rfl rfl (fun g10 w hs => ?_)
  refine WL.box (vs := cs7) hs rfl rfl (fun g11 w hs => ?_)
  refine WL.assign (v := .int .i64 0) rfl ?_
  refine WL.nil ?_
  refine hK9 _ _ ?_
  refine W.seqK fun K12 hK12 => ?_
  refine W.region ?_
  refine WL.fieldAddr (m := 0) rfl FA69_0 rfl ?_
  refine WL.loadF (z := x1.Process) F_network_Side_Process hs 1 rfl 0 rfl rfl TI3 (.inr rfl) rfl rfl (fun v13 hs => ?_)
  obtain rfl := hs.int 0 rfl
  refine WL.fieldAddr (m := 0) rfl FA69_0 rfl ?_
  refine WL.loadF (z := x5.Process) F_network_Side_Process hs 0 rfl 2 rfl rfl TI3 (.inr rfl) rfl rfl (fun v14 hs => ?_)
  obtain rfl := hs.int 0 rfl
  obtain ⟨x15, hxx15, hf⟩ := bindE hf
  refine WL.call (vs := [.int .i64 x1.Process, .int .i64 x5.Process]) hs FN30 ⟨rfl, ⟨rfl, trivial⟩⟩ (fun ok hA => cmp_Compare_int.calls (x1 := x1.Process) (x2 := x5.Process) hxx15) ?_
  rintro _ w hs
  refine WL.assign (v := .int .i64 x15) rfl ?_
  refine WL.nil ?_
  refine hK12 _ _ ?_
  refine W.ret ?_
  have hr := Option.some.inj hf; subst hr
  exact ⟨_, resOk_one rfl rfl, (), rfl, (hs.mask []).pick []⟩
/-! elasticstore/network.Partition: function 12 -/
theorem network_Partition.calls {ok : Nat → Prop} {w0 : World} {x1 : network_Network} {x5 : List network_Side} {v2 : Value} {a6 : Option Addr} {c7 : Nat} {r : network_Network} (hf : network_Partition x1 x5 = some r) (i0 : (vl t_network_Network x1 v2).holds ok w0) (i1 : (vl (tSlice t_network_Side) x5 (.slice a6 x5.length c7)).holds ok w0) :
    Calls Try.prog 12 #[v2, .slice a6 x5.length c7] w0 fun e w' => ∃ v, e = .returned v ∧ ∃ y : (Option Addr × Nat × Nat) × (Option Addr × Nat × Nat), v = .agg ([.int .i64 r.Next, .slice y.1.1 y.1.2.1 y.1.2.2, .slice y.2.1 y.2.2.1 y.2.2.2] : List Value).toArray ∧ St ok (bz w0) w' [] [own t_network_Packet 51 (.slice y.1.1 y.1.2.1 y.1.2.2) r.Packets, own t_network_Side 69 (.slice y.2.1 y.2.2.1 y.2.2.2) r.Sides] := by
  unfold network_Partition at hf
  refine calls_of_W (fn := Try.f12) (N := 47) Try.func12 rfl Try.ntmps12 rfl ?_
  have hs : St ok (bz w0) w0 [vl t_network_Network x1 v2, vl (tSlice t_network_Side) x5 (.slice a6 x5.length c7)] [] := St.init (All.cons i0 (All.cons i1 All.nil))
  clear i0 i1
  obtain ⟨cs3, hl4, rfl⟩ := hs.aggv (n := 3) 0 rfl rfl rfl
  refine W.seqK fun K8 hK8 => ?_
  refine W.region ?_
  obtain ⟨a10, c11, a12, c13, rfl⟩ := open_network_Network hs 0 rfl
  have hs := hs.add (it := vl (tSlice t_network_Packet) x1.Packets (.slice a10 (x1.Packets).length c11)) fun ok hA => V_fld F_network_Network_Packets (hA.get 0 rfl) rfl rfl rfl
  have hs := hs.add (it := vl (tSlice t_network_Side) x1.Sides (.slice a12 (x1.Sides).length c13)) fun ok hA => V_fld F_network_Network_Sides (hA.get 1 rfl) rfl rfl rfl
  refine WL.box (vs := [.int .i64 x1.Next, .slice a10 (x1.Packets).length c11, .slice a12 (x1.Sides).length c13]) hs rfl rfl (fun g9 w hs => ?_)
  refine WL.alloc hs ZV27 (fun g14 w hs => ?_)
  refine WL.nil ?_
  refine hK8 _ _ ?_
  refine W.seqK fun K15 hK15 => ?_
  refine W.region ?_
  refine WL.loadN (vs := [.int .i64 x1.Next, .slice a10 (x1.Packets).length c11, .slice a12 (x1.Sides).length c13]) hs 1 rfl TI27 rfl rfl rfl ?_
  have hs := hs.add (it := vl t_network_Network (⟨x1.Next, x1.Packets, x1.Sides⟩ : network_Network) (.agg [.int .i64 x1.Next, .slice a10 (x1.Packets).length c11, .slice a12 (x1.Sides).length c13].toArray)) fun ok hA => V_agg (show t_network_Network.R ok _ _ _ from ⟨[.int .i64 x1.Next], [.slice a10 (x1.Packets).length c11, .slice a12 (x1.Sides).length c13], rfl, rfl, ⟨[.slice a10 (x1.Packets).length c11], [.slice a12 (x1.Sides).length c13], rfl, (R_one (hA.get 1 rfl)), (R_one (hA.get 0 rfl))⟩⟩) rfl
  obtain ⟨x16, hxx16, hf⟩ := bindE hf
  refine WL.call (vs := [.agg ([.int .i64 x1.Next, .slice a10 (x1.Packets).length c11, .slice a12 (x1.Sides).length c13] : List Value).toArray]) hs FN27 ⟨rfl, trivial⟩ (fun ok hA => network_clone.calls (x1 := (⟨x1.Next, x1.Packets, x1.Sides⟩ : network_Network)) hxx16 (hA.get 0 rfl)) ?_
  rintro ⟨⟨a17, n18, c19⟩, ⟨a20, n21, c22⟩⟩ w hs
  refine WL.storeAll (vs := [.int .i64 x16.Next, .slice a17 n18 c19, .slice a20 n21 c22]) hs 3 rfl TI27 rfl rfl rfl rfl (ones_of rfl) rfl (fun w hs => ?_)
  refine WL.nil ?_
  refine hK15 _ _ ?_
  refine W.seqK fun K23 hK23 => ?_
  refine W.region ?_
  refine WL.makeMap (fun a : Int => .int .i64 a) (tInt .i64) hs (fun g24 w hs => ?_)
  refine WL.assign (v := .map (some g24)) rfl ?_
  refine WL.nil ?_
  refine hK23 _ _ ?_
  refine W.seqK fun K25 hK25 => ?_
  have Jk28 : ∀ (x26 : List (Int × Int)) (ρ : Env) (w : World), ρ 2 = .pointer (some ⟨g9, 0, none⟩) → ρ 4 = .pointer (some ⟨g14, 0, none⟩) → ρ 5 = .map (some g24) → St ok (bz w0) w [] [mapo (fun a : Int => .int .i64 a) (tInt .i64) g24 x26, own t_network_Packet 51 (.slice a17 n18 c19) x16.Packets, own t_network_Side 69 (.slice a20 n21 c22) x16.Sides, blk g14 27 [.int .i64 0, .slice none 0 0, .slice none 0 0], blk g9 27 [.int .i64 x16.Next, .slice a17 n18 c19, .slice a20 n21 c22]] → network_Partition.j2 x16 x26 = some r → K25 ρ w := by
    intro x26 ρ w h27_2 h27_4 h27_5 hs hf
    refine hK25 _ _ ?_
    unfold network_Partition.j2 at hf
    refine W.seqK fun K29 hK29 => ?_
    refine W.region ?_
    refine WL.fieldAddr (m := 2) h27_2 FA27_2 rfl ?_
    refine WL.store (vs := [.slice none 0 0]) (cs' := [.int .i64 x16.Next, .slice a17 n18 c19, .slice none 0 0]) hs 4 rfl TI23 rfl rfl rfl rfl (ones_of rfl) (Nat.le_of_ble_eq_true rfl) rfl (fun w hs => ?_)
    refine WL.nil ?_
    refine hK29 _ _ ?_
    refine W.seqK fun K30 hK30 => ?_
    have hs := hs.ownNil t_network_Side 69
    have Jk36 : ∀ (x32 : List network_Side) (a33 : Option Addr) (c34 : Nat) (n35 : Nat) (ρ : Env) (w : World), ρ 2 = .pointer (some ⟨g9, 0, none⟩) → ρ 4 = .pointer (some ⟨g14, 0, none⟩) → St ok (bz w0) w [] [own t_network_Side 69 (.slice a33 n35 c34) x32, own t_network_Packet 51 (.slice a17 n18 c19) x16.Packets, blk g14 27 [.int .i64 0, .slice none 0 0, .slice none 0 0], blk g9 27 [.int .i64 x16.Next, .slice a17 n18 c19, .slice a33 n35 c34]] → network_Partition.j1 x16 x32 = some r → K30 ρ w := by
      intro x32 a33 c34 n35 ρ w h31_2 h31_4 hs hf
      refine hK30 _ _ ?_
      unfold network_Partition.j1 at hf
      refine W.seqK fun K37 hK37 => ?_
      refine W.region ?_
      refine WL.fieldAddr (m := 2) h31_2 FA27_2 rfl ?_
      refine WL.load1 (v := .slice a33 n35 c34) hs 3 rfl TI23 rfl rfl ?_
      obtain ⟨x38, hxx38, hf⟩ := bindE hf
      have hs := hs.front 0 rfl
      refine WL.callO (vs := [.slice a33 n35 c34, .func (.func 29) #[] #[]]) [own t_network_Side 69 (.slice a33 n35 c34) x32] (Λb := [own t_network_Packet 51 (.slice a17 n18 c19) x16.Packets, blk g14 27 [.int .i64 0, .slice none 0 0, .slice none 0 0], blk g9 27 [.int .i64 x16.Next, .slice a17 n18 c19, .slice a33 n35 c34]]) hs FN28 ⟨rfl, ⟨rfl, trivial⟩⟩ (fun ok F hs => slices_SortFunc_Side.calls (a0 := a33) (n0 := n35) (c0 := c34) (x1 := x32) hxx38 (hs.pick [])) ?_
      rintro _ w hs
      refine WL.nil ?_
      refine hK37 _ _ ?_
      refine W.seqK fun K39 hK39 => ?_
      refine W.region ?_
      refine WL.loadN (vs := [.int .i64 x16.Next, .slice a17 n18 c19, .slice a33 n35 c34]) hs 3 rfl TI27 h31_2 rfl rfl ?_
      refine WL.storeAll (vs := [.int .i64 x16.Next, .slice a17 n18 c19, .slice a33 n35 c34]) hs 2 rfl TI27 h31_4 rfl rfl rfl (ones_of rfl) rfl (fun w hs => ?_)
      refine WL.nil ?_
      refine hK39 _ _ ?_
      refine W.ret ?_
      have hr := Option.some.inj hf; subst hr
      have hs := hs.front 0 rfl
      have hs := hs.front 1 rfl
      exact ⟨_, resOk_one rfl (res_all hs 2 rfl TI27 h31_4 rfl), ((a17, n18, c19), (a33, n35, c34)), rfl, (hs.mask [true, true]).pick []⟩
    refine W.seqK fun K40 hK40 => ?_
    refine W.region ?_
    refine WL.move (v := .map (some g24)) h27_5 ?_
    have hf := permE hf
    refine WL.range hs 1 rfl UN72 rfl (fun r41 w hs => ?_)
    refine WL.nil ?_
    refine hK40 _ _ ?_
    refine W.block ?_
    refine W.loopR hf (fun lf s ρ w => match s with | x44 => ∃ (a45 : Option Addr), ∃ (c46 : Nat), ∃ (n47 : Nat), ρ 2 = .pointer (some ⟨g9, 0, none⟩) ∧ ρ 4 = .pointer (some ⟨g14, 0, none⟩) ∧ ρ 27 = .pointer (some ⟨r41, 0, none⟩) ∧ St ok (bz w0) w [] [own t_network_Side 69 (.slice a45 n47 c46) x44, rng (fun a : Int => .int .i64 a) (tInt .i64) g24 r41 x26 lf none, own t_network_Packet 51 (.slice a17 n18 c19) x16.Packets, blk g14 27 [.int .i64 0, .slice none 0 0, .slice none 0 0], blk g9 27 [.int .i64 x16.Next, .slice a17 n18 c19, .slice a45 n47 c46]]) ⟨none, 0, 0, h27_2, h27_4, rfl, (hs.mask [true, true, true, false, true, true]).pick []⟩ ?_
    intro lf x44 ρ w hI hNs48 hCs48
    obtain ⟨a45, c46, n47, h43_2, h43_4, h43_27, hs⟩ := hI
    refine W.seqK fun K51 hK51 => ?_
    refine W.region ?_
    refine WL.next hs 1 rfl h43_27 (fun hL => ?_) (fun x49 x50 lf2s48 v53 w hPs48 hs => ?_)
    · have hf : network_Partition.j1 x16 x44 = some r := hNs48 hL
      have hs := hs.unrng 1 rfl
      refine WL.extract (v := .bool false) rfl rfl ?_
      refine WL.nil ?_
      refine hK51 _ _ ?_
      refine W.seqK fun K52 hK52 => ?_
      refine W.cond_false rfl ?_
      refine W.exit ?_
      exact Jk36 x44 a45 c46 n47 _ _ h43_2 h43_4 ((hs.mask [true, false, true, true, true]).pick []) hf
    · obtain ⟨os48, hSs48, hBs48⟩ := hCs48 _ _ hPs48
      have hf : network_Partition.l1 x49 x50 x44 = some os48 := hSs48
      unfold network_Partition.l1 at hf
      refine WL.extract (v := .bool true) rfl rfl ?_
      refine WL.nil ?_
      refine hK51 _ _ ?_
      refine W.seqK fun K54 hK54 => ?_
      refine W.cond_true rfl ?_
      refine W.skip ?_
      refine hK54 _ _ ?_
      refine W.block ?_
      refine W.seqK fun K55 hK55 => ?_
      refine W.region ?_
      refine WL.entry hs 1 rfl h43_27 (fun v56 hs => ?_)
      obtain rfl := hs.int 0 rfl
      have hs := hs.rngF 1 rfl
      refine WL.extract (v := .int .i64 x49) rfl rfl ?_
      refine WL.extract (v := .int .i64 x50) rfl rfl ?_
      refine WL.assign (v := .int .i64 x49) rfl ?_
      refine WL.assign (v := .int .i64 x50) rfl ?_
      refine WL.nil ?_
      refine hK55 _ _ ?_
      refine W.seqK fun K57 hK57 => ?_
      refine W.region ?_
      refine WL.move (v := .int .i64 x50) rfl ?_
      refine WL.bin (v := .bool (x50 != 0)) rfl rfl (ib_neq _ _ _) ?_
      refine WL.nil ?_
      refine hK57 _ _ ?_
      rcases iteE hf with ⟨hc58, hf⟩ | ⟨hc58, hf⟩
      · refine W.cond_true (bool_tr rfl hc58) ?_
        refine W.region ?_
        refine WL.fieldAddr (m := 2) h43_2 FA27_2 rfl ?_
        refine WL.load1 (v := .slice a45 n47 c46) hs 4 rfl TI23 rfl rfl ?_
        refine WL.move (v := .int .i64 x49) rfl ?_
        refine WL.move (v := .int .i64 x50) rfl ?_
        refine WL.build (vs := [(0, .int .i64 x49), (1, .int .i64 x50)]) (cs := [.int .i64 x49, .int .i64 x50]) ⟨⟨rfl, rfl⟩, ⟨⟨rfl, rfl⟩, trivial⟩⟩ (bld PL69 rfl) ?_
        refine WL.buildSlice (n := 1) (vs := [(0, .agg ([.int .i64 x49, .int .i64 x50] : List Value).toArray)]) (cs := [.int .i64 x49, .int .i64 x50]) hs ⟨⟨rfl, rfl⟩, trivial⟩ (bls PS23 (by decide) rfl) (fun g59 w hs => ?_)
        obtain ⟨x60, hxx60, hf⟩ := bindE hf
        obtain ⟨hbx60, hex60⟩ := appE hxx60
        refine WL.append (ys := [(⟨x49, x50⟩ : network_Side)]) (zs := x60) hs 1 rfl 0 rfl UN23 EI69 rfl rfl (fun ok hA => (Cells.one (T := t_network_Side) (show t_network_Side.R ok _ (⟨x49, x50⟩ : network_Side) _ from ⟨[.int .i64 x49], [.int .i64 x50], rfl, rfl, rfl⟩))) hbx60 (by omega) hex60 (fun v61 w hs => ?_)
        obtain ⟨a62, n64, c63, rfl⟩ := hs.ownv3 1 rfl
        refine WL.fieldAddr (m := 2) h43_2 FA27_2 rfl ?_
        refine WL.store (vs := [.slice a62 n64 c63]) (cs' := [.int .i64 x16.Next, .slice a17 n18 c19, .slice a62 n64 c63]) hs 5 rfl TI23 rfl rfl rfl rfl (ones_of rfl) (Nat.le_of_ble_eq_true rfl) rfl (fun w hs => ?_)
        refine WL.nil ?_
        have hr := Option.some.inj hf; subst hr
        exact ⟨_, _, _, hPs48, hSs48, a62, c63, n64, h43_2, h43_4, h43_27, (hs.mask [false, true, true, true, true, true]).pick []⟩
      · refine W.cond_false (bool_tr rfl hc58) ?_
        refine W.skip ?_
        have hr := Option.some.inj hf; subst hr
        exact ⟨_, _, _, hPs48, hSs48, a45, c46, n47, h43_2, h43_4, h43_27, (hs.mask [true, true, true, true, true]).pick []⟩
  refine W.seqK fun K65 hK65 => ?_
  refine W.region ?_
  refine WL.move (v := .slice a6 x5.length c7) rfl ?_
  refine WL.len (v := .slice a6 x5.length c7) rfl (len_slice UN23) ?_
  refine WL.move (v := .int .i64 0) rfl ?_
  refine WL.nil ?_
  refine hK65 _ _ ?_
  refine W.block ?_
  obtain ⟨bs69, hbs69, hfs69⟩ := bindE hf
  refine W.loop hbs69 (fun s ρ w => match s with | (x66, x68) => ρ 2 = .pointer (some ⟨g9, 0, none⟩) ∧ ρ 4 = .pointer (some ⟨g14, 0, none⟩) ∧ ρ 5 = .map (some g24) ∧ ρ 13 = .slice a6 x5.length c7 ∧ ρ 14 = .int .i64 (x5.length : Int) ∧ ρ 15 = .int .i64 x68 ∧ St ok (bz w0) w [vl (tSlice t_network_Side) x5 (.slice a6 x5.length c7)] [mapo (fun a : Int => .int .i64 a) (tInt .i64) g24 x66, own t_network_Packet 51 (.slice a17 n18 c19) x16.Packets, own t_network_Side 69 (.slice a20 n21 c22) x16.Sides, blk g14 27 [.int .i64 0, .slice none 0 0, .slice none 0 0], blk g9 27 [.int .i64 x16.Next, .slice a17 n18 c19, .slice a20 n21 c22]]) ⟨rfl, rfl, rfl, rfl, rfl, rfl, (hs.mask [true, true, true, true, true]).pick [4]⟩ ?_
  intro s ρ w os69 hI hf hbbs69
  obtain ⟨x66, x68⟩ := s
  obtain ⟨h67_2, h67_4, h67_5, h67_13, h67_14, h67_15, hs⟩ := hI
  unfold network_Partition.l2 at hf
  refine W.seqK fun K70 hK70 => ?_
  refine W.region ?_
  refine WL.bin (v := .bool (decide (x68 < (x5.length : Int)))) h67_15 h67_14 (ib_lss _ _ _) ?_
  refine WL.nil ?_
  refine hK70 _ _ ?_
  refine W.seqK fun K71 hK71 => ?_
  rcases iteE hf with ⟨hc72, hf⟩ | ⟨hc72, hf⟩
  · refine W.cond_true (bool_tr rfl hc72) ?_
    refine W.skip ?_
    refine hK71 _ _ ?_
    refine W.seqK fun K73 hK73 => ?_
    refine W.block ?_
    refine W.seqK fun K74 hK74 => ?_
    refine W.region ?_
    obtain ⟨x75, hxx75, hf⟩ := bindE hf
    refine WL.indexAddr hs 0 rfl UN23 TI69 h67_13 h67_15 hxx75 (fun ad76 hs => ?_)
    refine WL.loadP hs 0 rfl TI69 (.inl rfl) rfl (fun v77 hs => ?_)
    obtain ⟨cs78, hl79, rfl⟩ := hs.aggv (n := 2) 0 rfl rfl rfl
    refine WL.alloc hs ZV69 (fun g80 w hs => ?_)
    refine WL.storeAll (vs := cs78) hs 0 rfl TI69 rfl rfl rfl hl79 (hs.ones 0 rfl rfl) rfl (fun w hs => ?_)
    refine WL.nil ?_
    refine hK74 _ _ ?_
    refine W.region ?_
    refine WL.move (v := .map (some g24)) h67_5 ?_
    refine WL.fieldAddr (m := 0) rfl FA69_0 rfl ?_
    refine WL.loadF (z := x75.Process) F_network_Side_Process hs 0 rfl 0 rfl rfl TI3 (.inr rfl) rfl rfl (fun v81 hs => ?_)
    obtain rfl := hs.int 0 rfl
    refine WL.fieldAddr (m := 1) rfl FA69_1 rfl ?_
    refine WL.loadF (z := x75.Side) F_network_Side_Side hs 0 rfl 1 rfl rfl TI3 (.inr rfl) rfl rfl (fun v82 hs => ?_)
    obtain rfl := hs.int 0 rfl
    obtain ⟨x83, exx83, hf⟩ := letE hf
    refine WL.mapUpdate (a := x75.Process) (y := x75.Side) (v := .int .i64 x75.Side) hs 1 rfl (kkInt UN3) UN72 rfl rfl rfl (fun ok hA => tInt_V.2 rfl) exx83 (fun w hs => ?_)
    refine WL.nil ?_
    refine hK73 _ _ ?_
    refine W.region ?_
    obtain ⟨x84, ex84, hf⟩ := letE hf
    refine WL.bin (v := .int .i64 x84) h67_15 rfl (ib_as ex84 (ib_add _ _ _)) ?_
    refine WL.move (v := .int .i64 x84) rfl ?_
    refine WL.nil ?_
    exact ⟨_, (Option.some.inj hf).symm, h67_2, h67_4, h67_5, h67_13, h67_14, rfl, (hs.mask [false, true, true, true, true, true]).pick [4]⟩
  · refine W.cond_false (bool_tr rfl hc72) ?_
    refine W.exit ?_
    have hr := Option.some.inj hf; subst hr
    have hr := hbbs69 _ rfl; subst hr
    have hf := hfs69
    exact Jk28 x66 _ _ h67_2 h67_4 h67_5 ((hs.mask [true, true, true, true, true]).pick []) hf
theorem network_Partition.callc {ok : Nat → Prop} {w0 : World} {x1 : network_Network} {x5 : List network_Side} {v2 : Value} {a6 : Option Addr} {c7 : Nat} {r : network_Network} (hf : network_Partition x1 x5 = some r) (i0 : (vl t_network_Network x1 v2).holds ok w0) (i1 : (vl (tSlice t_network_Side) x5 (.slice a6 x5.length c7)).holds ok w0) :
    Calls Try.prog 12 #[v2, .slice a6 x5.length c7] w0 fun e w' => ∃ v, e = .returned v ∧ ∃ y : List Value, v = .agg y.toArray ∧ St ok (bz w0) w' [vl t_network_Network r (.agg y.toArray)] [] := by
  refine (network_Partition.calls (ok := ok) (w0 := w0) (x1 := x1) (x5 := x5) hf i0 i1).mono ?_
  rintro e w' ⟨v, rfl, ⟨⟨a86, n87, c88⟩, ⟨a89, n90, c91⟩⟩, rfl, hs⟩
  obtain rfl := hs.ownLen 0 rfl
  have hs := hs.freezeOwn 0 rfl
  obtain rfl := hs.ownLen 0 rfl
  have hs := hs.freezeOwn 0 rfl
  have hs := hs.add (it := vl t_network_Network (⟨r.Next, r.Packets, r.Sides⟩ : network_Network) (.agg [.int .i64 r.Next, .slice a86 (r.Packets).length c88, .slice a89 (r.Sides).length c91].toArray)) fun ok hA => V_agg (show t_network_Network.R ok _ _ _ from ⟨[.int .i64 r.Next], [.slice a86 (r.Packets).length c88, .slice a89 (r.Sides).length c91], rfl, rfl, ⟨[.slice a86 (r.Packets).length c88], [.slice a89 (r.Sides).length c91], rfl, (R_one (hA.get 1 rfl)), (R_one (hA.get 0 rfl))⟩⟩) rfl
  exact ⟨_, rfl, [.int .i64 r.Next, .slice a86 (r.Packets).length c88, .slice a89 (r.Sides).length c91], rfl, hs.pick [0]⟩
/-! elasticstore/network.side: function 31 -/
theorem network_side.calls {ok : Nat → Prop} {w0 : World} {x1 : network_Network} {x5 : Int} {v2 : Value} {r : Int} (hf : network_side x1 x5 = some r) (i0 : (vl t_network_Network x1 v2).holds ok w0) :
    Calls Try.prog 31 #[v2, .int .i64 x5] w0 fun e w' => ∃ v, e = .returned v ∧ ∃ y : Unit, v = .int .i64 r ∧ St ok (bz w0) w' [] [] := by
  unfold network_side at hf
  refine calls_of_W (fn := Try.f31) (N := 21) Try.func31 rfl Try.ntmps31 rfl ?_
  have hs : St ok (bz w0) w0 [vl t_network_Network x1 v2] [] := St.init (All.cons i0 All.nil)
  clear i0
  obtain ⟨cs3, hl4, rfl⟩ := hs.aggv (n := 3) 0 rfl rfl rfl
  refine W.seqK fun K6 hK6 => ?_
  refine W.region ?_
  refine WL.box (vs := cs3) hs rfl rfl (fun g7 w hs => ?_)
  refine WL.assign (v := .int .i64 0) rfl ?_
  refine WL.nil ?_
  refine hK6 _ _ ?_
  refine W.seqK fun K8 hK8 => ?_
  have Jk10 : ∀  (ρ : Env) (w : World), St ok (bz w0) w [] [] → network_side.j1 = some r → K8 ρ w := by
    intro  ρ w  hs hf
    refine hK8 _ _ ?_
    unfold network_side.j1 at hf
    refine W.seqK fun K11 hK11 => ?_
    refine W.region ?_
    refine WL.assign (v := .int .i64 0) rfl ?_
    refine WL.nil ?_
    refine hK11 _ _ ?_
    refine W.ret ?_
    have hr := Option.some.inj hf; subst hr
    exact ⟨_, resOk_one rfl rfl, (), rfl, (hs.mask []).pick []⟩
  refine W.seqK fun K12 hK12 => ?_
  refine W.region ?_
  refine WL.fieldAddr (m := 2) rfl FA27_2 rfl ?_
  refine WL.loadF (z := x1.Sides) F_network_Network_Sides hs 0 rfl 0 rfl rfl TI23 (.inr rfl) rfl rfl (fun v13 hs => ?_)
  obtain ⟨a14, c15, rfl⟩ := hs.slice 0 rfl
  refine WL.len (v := .slice a14 (x1.Sides).length c15) rfl (len_slice UN23) ?_
  refine WL.move (v := .int .i64 0) rfl ?_
  refine WL.nil ?_
  refine hK12 _ _ ?_
  refine W.block ?_
  obtain ⟨bs18, hbs18, hfs18⟩ := bindE hf
  refine W.loop hbs18 (fun s ρ w => match s with | x17 => ρ 1 = .int .i64 x5 ∧ ρ 8 = .slice a14 (x1.Sides).length c15 ∧ ρ 9 = .int .i64 ((x1.Sides).length : Int) ∧ ρ 10 = .int .i64 x17 ∧ St ok (bz w0) w [vl (tSlice t_network_Side) x1.Sides (.slice a14 (x1.Sides).length c15)] []) ⟨rfl, rfl, rfl, rfl, (hs.mask []).pick [0]⟩ ?_
  intro x17 ρ w os18 hI hf hbbs18
  obtain ⟨h16_1, h16_8, h16_9, h16_10, hs⟩ := hI
  unfold network_side.l1 at hf
  refine W.seqK fun K19 hK19 => ?_
  refine W.region ?_
  refine WL.bin (v := .bool (decide (x17 < ((x1.Sides).length : Int)))) h16_10 h16_9 (ib_lss _ _ _) ?_
  refine WL.nil ?_
  refine hK19 _ _ ?_
  refine W.seqK fun K20 hK20 => ?_
  rcases iteE hf with ⟨hc21, hf⟩ | ⟨hc21, hf⟩
  · refine W.cond_true (bool_tr rfl hc21) ?_
    refine W.skip ?_
    refine hK20 _ _ ?_
    refine W.seqK fun K22 hK22 => ?_
    refine W.block ?_
    refine W.seqK fun K23 hK23 => ?_
    refine W.region ?_
    obtain ⟨x24, hxx24, hf⟩ := bindE hf
    refine WL.indexAddr hs 0 rfl UN23 TI69 h16_8 h16_10 hxx24 (fun ad25 hs => ?_)
    refine WL.loadP hs 0 rfl TI69 (.inl rfl) rfl (fun v26 hs => ?_)
    obtain ⟨cs27, hl28, rfl⟩ := hs.aggv (n := 2) 0 rfl rfl rfl
    refine WL.alloc hs ZV69 (fun g29 w hs => ?_)
    refine WL.storeAll (vs := cs27) hs 0 rfl TI69 rfl rfl rfl hl28 (hs.ones 0 rfl rfl) rfl (fun w hs => ?_)
    refine WL.nil ?_
    refine hK23 _ _ ?_
    refine W.seqK fun K30 hK30 => ?_
    refine W.region ?_
    refine WL.fieldAddr (m := 0) rfl FA69_0 rfl ?_
    refine WL.loadF (z := x24.Process) F_network_Side_Process hs 0 rfl 0 rfl rfl TI3 (.inr rfl) rfl rfl (fun v31 hs => ?_)
    obtain rfl := hs.int 0 rfl
    refine WL.move (v := .int .i64 x5) h16_1 ?_
    refine WL.bin (v := .bool (x24.Process == x5)) rfl rfl (ib_eql _ _ _) ?_
    refine WL.nil ?_
    refine hK30 _ _ ?_
    rcases iteE hf with ⟨hc32, hf⟩ | ⟨hc32, hf⟩
    · refine W.cond_true (bool_tr rfl hc32) ?_
      refine W.seqK fun K33 hK33 => ?_
      refine W.region ?_
      refine WL.fieldAddr (m := 1) rfl FA69_1 rfl ?_
      refine WL.loadF (z := x24.Side) F_network_Side_Side hs 0 rfl 1 rfl rfl TI3 (.inr rfl) rfl rfl (fun v34 hs => ?_)
      obtain rfl := hs.int 0 rfl
      refine WL.assign (v := .int .i64 x24.Side) rfl ?_
      refine WL.nil ?_
      refine hK33 _ _ ?_
      refine W.ret ?_
      have hr := Option.some.inj hf; subst hr
      have hr := hbbs18 _ rfl; subst hr
      have hf := hfs18
      have hr := Option.some.inj hf; subst hr
      exact ⟨_, resOk_one rfl rfl, (), rfl, (hs.mask []).pick []⟩
    · refine W.cond_false (bool_tr rfl hc32) ?_
      refine W.skip ?_
      refine hK22 _ _ ?_
      refine W.region ?_
      obtain ⟨x35, ex35, hf⟩ := letE hf
      refine WL.bin (v := .int .i64 x35) h16_10 rfl (ib_as ex35 (ib_add _ _ _)) ?_
      refine WL.move (v := .int .i64 x35) rfl ?_
      refine WL.nil ?_
      exact ⟨_, (Option.some.inj hf).symm, h16_1, h16_8, h16_9, rfl, (hs.mask []).pick [3]⟩
  · refine W.cond_false (bool_tr rfl hc21) ?_
    refine W.exit ?_
    have hr := Option.some.inj hf; subst hr
    have hr := hbbs18 _ rfl; subst hr
    have hf := hfs18
    exact Jk10  _ _  ((hs.mask []).pick []) hf
end Go.Proofs.Ytahobbichanccaa
