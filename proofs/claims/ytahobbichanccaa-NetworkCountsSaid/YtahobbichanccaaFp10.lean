import Derived.Test.YtahobbichanccaaFh
import Derived.Test.YtahobbichanccaaFp0
import Derived.Test.YtahobbichanccaaFp3
import Derived.Test.YtahobbichanccaaFp4
import Derived.Test.YtahobbichanccaaFp9
set_option linter.unusedVariables false
set_option linter.unusedSimpArgs false
namespace Go.Proofs.Ytahobbichanccaa
open Go Go.RowKit Go.Proofs.YtahobbichanccaaL
set_option maxRecDepth 100000
set_option maxHeartbeats 400000
/-! elasticstore/network.Purge: function 37 -/
theorem network_Purge.calls {ok : Nat → Prop} {w0 : World} {x1 : network_Network} {x5 : Int} {v2 : Value} {r : network_Network} (hf : network_Purge x1 x5 = some r) (i0 : (vl t_network_Network x1 v2).holds ok w0) :
    Calls Try.prog 37 #[v2, .int .i64 x5] w0 fun e w' => ∃ v, e = .returned v ∧ ∃ y : (Option Addr × Nat × Nat) × (Option Addr × Nat × Nat), v = .agg ([.int .i64 r.Next, .slice y.1.1 y.1.2.1 y.1.2.2, .slice y.2.1 y.2.2.1 y.2.2.2] : List Value).toArray ∧ St ok (bz w0) w' [] [own t_network_Packet 51 (.slice y.1.1 y.1.2.1 y.1.2.2) r.Packets, own t_network_Side 69 (.slice y.2.1 y.2.2.1 y.2.2.2) r.Sides] := by
  unfold network_Purge at hf
  refine calls_of_W (fn := Try.f37) (N := 13) Try.func37 rfl Try.ntmps37 rfl ?_
  have hs : St ok (bz w0) w0 [vl t_network_Network x1 v2] [] := St.init (All.cons i0 All.nil)
  clear i0
  obtain ⟨cs3, hl4, rfl⟩ := hs.aggv (n := 3) 0 rfl rfl rfl
  refine W.seqK fun K6 hK6 => ?_
  refine W.region ?_
  obtain ⟨a8, c9, a10, c11, rfl⟩ := open_network_Network hs 0 rfl
  have hs := hs.add (it := vl (tSlice t_network_Packet) x1.Packets (.slice a8 (x1.Packets).length c9)) fun ok hA => V_fld F_network_Network_Packets (hA.get 0 rfl) rfl rfl rfl
  have hs := hs.add (it := vl (tSlice t_network_Side) x1.Sides (.slice a10 (x1.Sides).length c11)) fun ok hA => V_fld F_network_Network_Sides (hA.get 1 rfl) rfl rfl rfl
  refine WL.box (vs := [.int .i64 x1.Next, .slice a8 (x1.Packets).length c9, .slice a10 (x1.Sides).length c11]) hs rfl rfl (fun g7 w hs => ?_)
  refine WL.box (vs := [.int .i64 x5]) hs rfl rfl (fun g12 w hs => ?_)
  refine WL.alloc hs ZV27 (fun g13 w hs => ?_)
  refine WL.nil ?_
  refine hK6 _ _ ?_
  refine W.seqK fun K14 hK14 => ?_
  refine W.region ?_
  refine WL.loadN (vs := [.int .i64 x1.Next, .slice a8 (x1.Packets).length c9, .slice a10 (x1.Sides).length c11]) hs 2 rfl TI27 rfl rfl rfl ?_
  have hs := hs.add (it := vl t_network_Network (⟨x1.Next, x1.Packets, x1.Sides⟩ : network_Network) (.agg [.int .i64 x1.Next, .slice a8 (x1.Packets).length c9, .slice a10 (x1.Sides).length c11].toArray)) fun ok hA => V_agg (show t_network_Network.R ok _ _ _ from ⟨[.int .i64 x1.Next], [.slice a8 (x1.Packets).length c9, .slice a10 (x1.Sides).length c11], rfl, rfl, ⟨[.slice a8 (x1.Packets).length c9], [.slice a10 (x1.Sides).length c11], rfl, (R_one (hA.get 1 rfl)), (R_one (hA.get 0 rfl))⟩⟩) rfl
  obtain ⟨x15, hxx15, hf⟩ := bindE hf
  refine WL.call (vs := [.agg ([.int .i64 x1.Next, .slice a8 (x1.Packets).length c9, .slice a10 (x1.Sides).length c11] : List Value).toArray]) hs FN27 ⟨rfl, trivial⟩ (fun ok hA => network_clone.calls (x1 := (⟨x1.Next, x1.Packets, x1.Sides⟩ : network_Network)) hxx15 (hA.get 0 rfl)) ?_
  rintro ⟨⟨a16, n17, c18⟩, ⟨a19, n20, c21⟩⟩ w hs
  refine WL.storeAll (vs := [.int .i64 x15.Next, .slice a16 n17 c18, .slice a19 n20 c21]) hs 4 rfl TI27 rfl rfl rfl rfl (ones_of rfl) rfl (fun w hs => ?_)
  refine WL.nil ?_
  refine hK14 _ _ ?_
  refine W.seqK fun K22 hK22 => ?_
  refine W.region ?_
  refine WL.fieldAddr (m := 1) rfl FA27_1 rfl ?_
  refine WL.load1 (v := .slice a16 n17 c18) hs 4 rfl TI25 rfl rfl ?_
  refine WL.makeFunc (vs := [.pointer (some ⟨g12, 0, none⟩)]) ⟨rfl, trivial⟩ ?_
  have hs := hs.freezeB (A := tInt .i64) (x := x5) 3 rfl fun ok hA => rfl
  have hs := hs.add (it := vl (tFun Try.prog (argK1 t_network_Packet) (fun r : Bool => .bool r)) (fun p : network_Packet => network_Purge_1 p x5) (.func (.func 55) #[] #[.pointer (some ⟨g12, 0, none⟩)])) fun ok hA => tFun_V.2 ⟨55, _, rfl, FN55, fun ok' w' hm p r vs hF har => by
    obtain ⟨u1, rfl, h1⟩ := har
    exact (network_Purge_1.calls (x1 := p) (x5 := x5) hF h1 ((hA.get 0 rfl).move hm)).mono (by rintro e w2 ⟨v, h1, y, h2, h3⟩; exact ⟨v, h1, h2, h3⟩)⟩
  obtain ⟨x23, hxx23, hf⟩ := bindE hf
  have hs := hs.front 0 rfl
  refine WL.callO (vs := [.slice a16 n17 c18, (.func (.func 55) #[] #[.pointer (some ⟨g12, 0, none⟩)])]) [own t_network_Packet 51 (.slice a16 n17 c18) x15.Packets] (Λb := [own t_network_Side 69 (.slice a19 n20 c21) x15.Sides, blk g13 27 [.int .i64 0, .slice none 0 0, .slice none 0 0], blk g7 27 [.int .i64 x15.Next, .slice a16 n17 c18, .slice a19 n20 c21]]) hs FN54 ⟨rfl, ⟨rfl, trivial⟩⟩ (fun ok F hs => slices_DeleteFunc_Packet.calls (a2 := a16) (n3 := n17) (c4 := c18) (x1 := x15.Packets) (x5 := (fun p : network_Packet => network_Purge_1 p x5)) hxx23 (hs.pick [0])) ?_
  rintro ⟨a24, n25, c26⟩ w hs
  refine WL.fieldAddr (m := 1) rfl FA27_1 rfl ?_
  refine WL.store (vs := [.slice a24 n25 c26]) (cs' := [.int .i64 x15.Next, .slice a24 n25 c26, .slice a19 n20 c21]) hs 3 rfl TI25 rfl rfl rfl rfl (ones_of rfl) (Nat.le_of_ble_eq_true rfl) rfl (fun w hs => ?_)
  refine WL.nil ?_
  refine hK22 _ _ ?_
  refine W.seqK fun K27 hK27 => ?_
  refine W.region ?_
  refine WL.loadN (vs := [.int .i64 x15.Next, .slice a24 n25 c26, .slice a19 n20 c21]) hs 3 rfl TI27 rfl rfl rfl ?_
  refine WL.storeAll (vs := [.int .i64 x15.Next, .slice a24 n25 c26, .slice a19 n20 c21]) hs 2 rfl TI27 rfl rfl rfl rfl (ones_of rfl) rfl (fun w hs => ?_)
  refine WL.nil ?_
  refine hK27 _ _ ?_
  refine W.ret ?_
  have hr := Option.some.inj hf; subst hr
  exact ⟨_, resOk_one rfl (res_all hs 2 rfl TI27 rfl rfl), ((a24, n25, c26), (a19, n20, c21)), rfl, (hs.mask [true, true]).pick []⟩
theorem network_Purge.callc {ok : Nat → Prop} {w0 : World} {x1 : network_Network} {x5 : Int} {v2 : Value} {r : network_Network} (hf : network_Purge x1 x5 = some r) (i0 : (vl t_network_Network x1 v2).holds ok w0) :
    Calls Try.prog 37 #[v2, .int .i64 x5] w0 fun e w' => ∃ v, e = .returned v ∧ ∃ y : List Value, v = .agg y.toArray ∧ St ok (bz w0) w' [vl t_network_Network r (.agg y.toArray)] [] := by
  refine (network_Purge.calls (ok := ok) (w0 := w0) (x1 := x1) (x5 := x5) hf i0).mono ?_
  rintro e w' ⟨v, rfl, ⟨⟨a28, n29, c30⟩, ⟨a31, n32, c33⟩⟩, rfl, hs⟩
  obtain rfl := hs.ownLen 0 rfl
  have hs := hs.freezeOwn 0 rfl
  obtain rfl := hs.ownLen 0 rfl
  have hs := hs.freezeOwn 0 rfl
  have hs := hs.add (it := vl t_network_Network (⟨r.Next, r.Packets, r.Sides⟩ : network_Network) (.agg [.int .i64 r.Next, .slice a28 (r.Packets).length c30, .slice a31 (r.Sides).length c33].toArray)) fun ok hA => V_agg (show t_network_Network.R ok _ _ _ from ⟨[.int .i64 r.Next], [.slice a28 (r.Packets).length c30, .slice a31 (r.Sides).length c33], rfl, rfl, ⟨[.slice a28 (r.Packets).length c30], [.slice a31 (r.Sides).length c33], rfl, (R_one (hA.get 1 rfl)), (R_one (hA.get 0 rfl))⟩⟩) rfl
  exact ⟨_, rfl, [.int .i64 r.Next, .slice a28 (r.Packets).length c30, .slice a31 (r.Sides).length c33], rfl, hs.pick [0]⟩
/-! elasticstore/elasticstoreref36.Purge: function 38 -/
theorem esref36_Purge.calls {ok : Nat → Prop} {w0 : World} {x1 : network_Network} {x5 : Int} {v2 : Value} {r : network_Network} (hf : esref36_Purge x1 x5 = some r) (i0 : (vl t_network_Network x1 v2).holds ok w0) :
    Calls Try.prog 38 #[v2, .int .i64 x5] w0 fun e w' => ∃ v, e = .returned v ∧ ∃ y : (Option Addr × Nat × Nat) × (Option Addr × Nat × Nat), v = .agg ([.int .i64 r.Next, .slice y.1.1 y.1.2.1 y.1.2.2, .slice y.2.1 y.2.2.1 y.2.2.2] : List Value).toArray ∧ St ok (bz w0) w' [] [own t_network_Packet 51 (.slice y.1.1 y.1.2.1 y.1.2.2) r.Packets, own t_network_Side 69 (.slice y.2.1 y.2.2.1 y.2.2.2) r.Sides] := by
  unfold esref36_Purge at hf
  refine calls_of_W (fn := Try.f38) (N := 37) Try.func38 rfl Try.ntmps38 rfl ?_
  have hs : St ok (bz w0) w0 [vl t_network_Network x1 v2] [] := St.init (All.cons i0 All.nil)
  clear i0
  obtain ⟨cs3, hl4, rfl⟩ := hs.aggv (n := 3) 0 rfl rfl rfl
  refine W.seqK fun K6 hK6 => ?_
  refine W.region ?_
  refine WL.box (vs := cs3) hs rfl rfl (fun g7 w hs => ?_)
  refine WL.alloc hs ZV27 (fun g8 w hs => ?_)
  refine WL.nil ?_
  refine hK6 _ _ ?_
  refine W.seqK fun K9 hK9 => ?_
  refine W.region ?_
  refine WL.loadAll hs 1 rfl TI27 rfl hl4 ?_
  have hs := hs.add (it := vl (tSlice t_api_Message) [] (.slice none 0 0)) fun ok hA => V_nil
  obtain ⟨x10, hxx10, hf⟩ := bindE hf
  refine WL.call (vs := [.agg cs3.toArray, .slice none 0 0]) hs FN39 ⟨rfl, ⟨rfl, trivial⟩⟩ (fun ok hA => esref36_Send.calls (a6 := none) (c7 := 0) (x1 := x1) (x5 := []) hxx10 (hA.get 1 rfl) (hA.get 0 rfl)) ?_
  rintro ⟨⟨a11, n12, c13⟩, ⟨a14, n15, c16⟩⟩ w hs
  refine WL.alloc hs ZV27 (fun g17 w hs => ?_)
  refine WL.storeAll (vs := [.int .i64 x10.Next, .slice a11 n12 c13, .slice a14 n15 c16]) hs 0 rfl TI27 rfl rfl rfl rfl (ones_of rfl) rfl (fun w hs => ?_)
  refine WL.nil ?_
  refine hK9 _ _ ?_
  refine W.seqK fun K18 hK18 => ?_
  refine W.region ?_
  refine WL.fieldAddr (m := 1) rfl FA27_1 rfl ?_
  refine WL.store (vs := [.slice none 0 0]) (cs' := [.int .i64 x10.Next, .slice none 0 0, .slice a14 n15 c16]) hs 0 rfl TI25 rfl rfl rfl rfl (ones_of rfl) (Nat.le_of_ble_eq_true rfl) rfl (fun w hs => ?_)
  refine WL.nil ?_
  refine hK18 _ _ ?_
  refine W.seqK fun K19 hK19 => ?_
  have hs := hs.ownNil t_network_Packet 51
  have Jk25 : ∀ (x21 : List network_Packet) (a22 : Option Addr) (c23 : Nat) (n24 : Nat) (ρ : Env) (w : World), ρ 4 = .pointer (some ⟨g8, 0, none⟩) → ρ 5 = .pointer (some ⟨g17, 0, none⟩) → St ok (bz w0) w [] [own t_network_Packet 51 (.slice a22 n24 c23) x21, blk g17 27 [.int .i64 x10.Next, .slice a22 n24 c23, .slice a14 n15 c16], own t_network_Side 69 (.slice a14 n15 c16) x10.Sides, blk g8 27 [.int .i64 0, .slice none 0 0, .slice none 0 0]] → esref36_Purge.j1 x10 x21 = some r → K19 ρ w := by
    intro x21 a22 c23 n24 ρ w h20_4 h20_5 hs hf
    refine hK19 _ _ ?_
    unfold esref36_Purge.j1 at hf
    refine W.seqK fun K26 hK26 => ?_
    refine W.region ?_
    refine WL.loadN (vs := [.int .i64 x10.Next, .slice a22 n24 c23, .slice a14 n15 c16]) hs 1 rfl TI27 h20_5 rfl rfl ?_
    refine WL.storeAll (vs := [.int .i64 x10.Next, .slice a22 n24 c23, .slice a14 n15 c16]) hs 3 rfl TI27 h20_4 rfl rfl rfl (ones_of rfl) rfl (fun w hs => ?_)
    refine WL.nil ?_
    refine hK26 _ _ ?_
    refine W.ret ?_
    have hr := Option.some.inj hf; subst hr
    exact ⟨_, resOk_one rfl (res_all hs 3 rfl TI27 h20_4 rfl), ((a22, n24, c23), (a14, n15, c16)), rfl, (hs.mask [true, false, true]).pick []⟩
  refine W.seqK fun K27 hK27 => ?_
  refine W.region ?_
  refine WL.assign (v := .int .i64 0) rfl ?_
  refine WL.nil ?_
  refine hK27 _ _ ?_
  refine W.block ?_
  obtain ⟨bs34, hbs34, hfs34⟩ := bindE hf
  refine W.loop hbs34 (fun s ρ w => match s with | (x29, x30) => ∃ (a31 : Option Addr), ∃ (c32 : Nat), ∃ (n33 : Nat), ρ 1 = .int .i64 x5 ∧ ρ 2 = .pointer (some ⟨g7, 0, none⟩) ∧ ρ 4 = .pointer (some ⟨g8, 0, none⟩) ∧ ρ 5 = .pointer (some ⟨g17, 0, none⟩) ∧ ρ 6 = .int .i64 x29 ∧ St ok (bz w0) w [vl t_network_Network x1 (.agg cs3.toArray)] [own t_network_Packet 51 (.slice a31 n33 c32) x30, blk g17 27 [.int .i64 x10.Next, .slice a31 n33 c32, .slice a14 n15 c16], own t_network_Side 69 (.slice a14 n15 c16) x10.Sides, blk g8 27 [.int .i64 0, .slice none 0 0, .slice none 0 0], blk g7 27 cs3]) ⟨none, 0, 0, rfl, rfl, rfl, rfl, rfl, (hs.mask [true, true, false, true, true, true]).pick [1]⟩ ?_
  intro s ρ w os34 hI hf hbbs34
  obtain ⟨x29, x30⟩ := s
  obtain ⟨a31, c32, n33, h28_1, h28_2, h28_4, h28_5, h28_6, hs⟩ := hI
  unfold esref36_Purge.l1 at hf
  refine W.seqK fun K35 hK35 => ?_
  refine W.seqK fun K36 hK36 => ?_
  refine W.region ?_
  refine WL.move (v := .int .i64 x29) h28_6 ?_
  refine WL.fieldAddr (m := 1) h28_2 FA27_1 rfl ?_
  refine WL.loadF (z := x1.Packets) F_network_Network_Packets hs 4 rfl 0 rfl rfl TI25 (.inr rfl) rfl rfl (fun v37 hs => ?_)
  obtain ⟨a38, c39, rfl⟩ := hs.slice 0 rfl
  refine WL.len (v := .slice a38 (x1.Packets).length c39) rfl (len_slice UN25) ?_
  refine WL.bin (v := .bool (decide (x29 < ((x1.Packets).length : Int)))) rfl rfl (ib_lss _ _ _) ?_
  refine WL.nil ?_
  refine hK36 _ _ ?_
  rcases iteE hf with ⟨hc40, hf⟩ | ⟨hc40, hf⟩
  · refine W.cond_true (bool_tr rfl hc40) ?_
    refine W.skip ?_
    refine hK35 _ _ ?_
    refine W.seqK fun K41 hK41 => ?_
    have Jk47 : ∀ (x43 : List network_Packet) (a44 : Option Addr) (c45 : Nat) (n46 : Nat) (ρ : Env) (w : World), ρ 1 = .int .i64 x5 → ρ 2 = .pointer (some ⟨g7, 0, none⟩) → ρ 4 = .pointer (some ⟨g8, 0, none⟩) → ρ 5 = .pointer (some ⟨g17, 0, none⟩) → ρ 6 = .int .i64 x29 → St ok (bz w0) w [vl t_network_Network x1 (.agg cs3.toArray)] [own t_network_Packet 51 (.slice a44 n46 c45) x43, blk g17 27 [.int .i64 x10.Next, .slice a44 n46 c45, .slice a14 n15 c16], own t_network_Side 69 (.slice a14 n15 c16) x10.Sides, blk g8 27 [.int .i64 0, .slice none 0 0, .slice none 0 0], blk g7 27 cs3] → esref36_Purge.j2 x29 x43 = some os34 → K41 ρ w := by
      intro x43 a44 c45 n46 ρ w h42_1 h42_2 h42_4 h42_5 h42_6 hs hf
      refine hK41 _ _ ?_
      unfold esref36_Purge.j2 at hf
      refine W.region ?_
      refine WL.move (v := .int .i64 x29) h42_6 ?_
      obtain ⟨x48, ex48, hf⟩ := letE hf
      refine WL.bin (v := .int .i64 x48) rfl rfl (ib_as ex48 (ib_add _ _ _)) ?_
      refine WL.assign (v := .int .i64 x48) rfl ?_
      refine WL.nil ?_
      exact ⟨_, (Option.some.inj hf).symm, a44, c45, n46, h42_1, h42_2, h42_4, h42_5, rfl, (hs.mask [true, true, true, true, true]).pick [0]⟩
    refine W.block ?_
    refine W.seqK fun K49 hK49 => ?_
    refine W.region ?_
    refine WL.fieldAddr (m := 1) h28_2 FA27_1 rfl ?_
    refine WL.loadF (z := x1.Packets) F_network_Network_Packets hs 4 rfl 1 rfl rfl TI25 (.inr rfl) rfl rfl (fun v50 hs => ?_)
    obtain ⟨a51, c52, rfl⟩ := hs.slice 0 rfl
    refine WL.move (v := .int .i64 x29) h28_6 ?_
    obtain ⟨x53, hxx53, hf⟩ := bindE hf
    refine WL.indexAddr hs 0 rfl UN25 TI51 rfl rfl hxx53 (fun ad54 hs => ?_)
    refine WL.fieldAddrP (z := x53.Message) F_network_Packet_Message hs 0 rfl rfl FA51_1 rfl (fun ad55 hs => ?_)
    refine WL.fieldAddrP (z := x53.Message.To) F_api_Message_To hs 0 rfl rfl FA49_2 rfl (fun ad56 hs => ?_)
    refine WL.loadP hs 0 rfl TI3 (.inr rfl) rfl (fun v57 hs => ?_)
    obtain rfl := hs.int 0 rfl
    refine WL.move (v := .int .i64 x5) h28_1 ?_
    refine WL.bin (v := .bool (x53.Message.To != x5)) rfl rfl (ib_neq _ _ _) ?_
    refine WL.nil ?_
    refine hK49 _ _ ?_
    rcases iteE hf with ⟨hc58, hf⟩ | ⟨hc58, hf⟩
    · refine W.cond_true (bool_tr rfl hc58) ?_
      obtain ⟨x62, hxx62, hf⟩ := bindE hf
      refine W.any (by kernel_rfl) 8 3 [true, true, true, true, true, true, true, true, false, false, false] rfl rfl (poAt [pv (.pointer (some ⟨g17, 1, none⟩)), pv (.slice a31 n33 c32), pv (.pointer (some ⟨g7, 1, none⟩)), pq (fun y : (Option Addr × Nat) => .slice y.1 (x1.Packets).length y.2) (fun v => [vl (tSlice t_network_Packet) x1.Packets v]) (fun v => []), pv (.int .i64 x29), pq (fun y : Addr => .pointer (some y)) (fun v => [pl t_network_Packet x62 (adOf v)]) (fun v => []), pq (fun y : List Value => .agg y.toArray) (fun v => [vl t_network_Packet x62 v]) (fun v => []), pq (fun y : (Option Addr × Nat) => .slice y.1 ([x62]).length y.2) (fun v => [vl (tSlice t_network_Packet) [x62] v]) (fun v => [])]) (Λ := [own t_network_Packet 51 (.slice a31 n33 c32) x30, blk g17 27 [.int .i64 x10.Next, .slice a31 n33 c32, .slice a14 n15 c16], own t_network_Side 69 (.slice a14 n15 c16) x10.Sides, blk g8 27 [.int .i64 0, .slice none 0 0, .slice none 0 0], blk g7 27 cs3]) hs (by kernel_rfl) (by kernel_rfl) (by kernel_rfl) ⟨⟨⟨⟨⟨⟨⟨⟨trivial, ?_⟩, ?_⟩, ?_⟩, ?_⟩, ?_⟩, ?_⟩, ?_⟩, ?_⟩ ?_
      · intro ρ w Γx Λx hs hu hp
        refine WL.fieldAddr (m := 1) ((hu 5 rfl).trans h28_5) FA27_1 rfl ?_
        exact WL.nil ⟨rfl, _, rfl, rfl, hs.cutG 0 0⟩
      · intro ρ w Γx Λx hs hu hp
        have e69 : ρ 26 = .pointer (some ⟨g17, 1, none⟩) := (hp 0 rfl).1
        refine WL.load1 (v := .slice a31 n33 c32) hs (Λx.length + 1) (getApp rfl) TI25 e69 rfl ?_
        exact WL.nil ⟨rfl, _, rfl, rfl, hs.cutG 0 0⟩
      · intro ρ w Γx Λx hs hu hp
        refine WL.fieldAddr (m := 1) ((hu 2 rfl).trans h28_2) FA27_1 rfl ?_
        exact WL.nil ⟨rfl, _, rfl, rfl, hs.cutG 0 0⟩
      · intro ρ w Γx Λx hs hu hp
        have e70 : ρ 28 = .pointer (some ⟨g7, 1, none⟩) := (hp 2 rfl).1
        refine WL.loadF (z := x1.Packets) F_network_Network_Packets hs (Λx.length + 4) (getApp rfl) (Γx.length + 6) (getApp rfl) rfl TI25 (.inr rfl) e70 rfl (fun v59 hs => ?_)
        obtain ⟨a60, c61, rfl⟩ := hs.slice 0 rfl
        have hs := hs.add (it := vl (tSlice t_network_Packet) x1.Packets (.slice a60 (x1.Packets).length c61)) fun ok hA => hA.get 0 rfl
        exact WL.nil ⟨rfl, _, rfl, ⟨(a60, c61), rfl⟩, hs.cutG 1 1⟩
      · intro ρ w Γx Λx hs hu hp
        refine WL.move (v := .int .i64 x29) ((hu 6 rfl).trans h28_6) ?_
        exact WL.nil ⟨rfl, _, rfl, rfl, hs.cutG 0 0⟩
      · intro ρ w Γx Λx hs hu hp
        obtain ⟨⟨⟨a71, c72⟩, e73r⟩, hm74⟩ := hp 3 rfl
        have e73 : ρ 29 = .slice a71 (x1.Packets).length c72 := e73r
        rw [e73r] at hm74
        have hs := hs.memo1 (it := vl (tSlice t_network_Packet) x1.Packets (.slice a71 (x1.Packets).length c72)) (List.mem_append.2 (.inl (hm74 _ (List.mem_of_getElem? (i := 0) rfl))))
        have e75 : ρ 30 = .int .i64 x29 := (hp 4 rfl).1
        refine WL.indexAddr hs 0 rfl UN25 TI51 e73 e75 hxx62 (fun ad63 hs => ?_)
        have hs := hs.add (it := pl t_network_Packet x62 ad63) fun ok hA => hA.get 0 rfl
        exact WL.nil ⟨rfl, _, rfl, ⟨ad63, rfl⟩, hs.cutG 1 2⟩
      · intro ρ w Γx Λx hs hu hp
        obtain ⟨⟨ad76, e77r⟩, hm78⟩ := hp 5 rfl
        have e77 : ρ 31 = .pointer (some ad76) := e77r
        rw [e77r] at hm78
        have hs := hs.memo1 (it := pl t_network_Packet x62 ad76) (List.mem_append.2 (.inl (hm78 _ (List.mem_of_getElem? (i := 0) rfl))))
        refine WL.loadP hs 0 rfl TI51 (.inl rfl) e77 (fun v64 hs => ?_)
        obtain ⟨cs65, hl66, rfl⟩ := hs.aggv (n := 19) 0 rfl rfl rfl
        have hs := hs.add (it := vl t_network_Packet x62 (.agg cs65.toArray)) fun ok hA => hA.get 0 rfl
        exact WL.nil ⟨rfl, _, rfl, ⟨cs65, rfl⟩, hs.cutG 1 2⟩
      · intro ρ w Γx Λx hs hu hp
        obtain ⟨⟨cs79, e81r⟩, hm82⟩ := hp 6 rfl
        have e81 : ρ 32 = .agg cs79.toArray := e81r
        rw [e81r] at hm82
        have hs := hs.memo1 (it := vl t_network_Packet x62 (.agg cs79.toArray)) (List.mem_append.2 (.inl (hm82 _ (List.mem_of_getElem? (i := 0) rfl))))
        have hl80 := hs.agglen (n := 19) 0 rfl rfl rfl
        refine WL.buildSliceB (ys := [x62]) (n := 1) (vs := [(0, .agg cs79.toArray)]) (cs := cs79) hs ⟨⟨rfl, e81⟩, trivial⟩ (bls PS25 (by decide) (by simp [fillS, fillL, Value.cells, hl80])) (fun ok hA => (Cells.one (T := t_network_Packet) (R_agg (hA.get 0 rfl) rfl))) rfl (by decide) (fun a68 w hBl hs => ?_)
        have hs := hs.add (it := vl (tSlice t_network_Packet) [x62] (.slice a68 ([x62]).length 1)) fun ok hA => hA.get 0 rfl
        exact WL.nil ⟨rfl, _, rfl, ⟨(a68, 1), rfl⟩, hs.cutG 1 2⟩
      · intro ρ w hs hu83 hp
        obtain ⟨⟨⟨⟨⟨⟨⟨⟨_, hp0_⟩, hp1_⟩, hp2_⟩, hp3_⟩, hp4_⟩, hp5_⟩, hp6_⟩, hp7_⟩ := hp
        have hs : St ok (bz w0) w [vl (tSlice t_network_Packet) [x62] (ρ 33), vl t_network_Packet x62 (ρ 32), pl t_network_Packet x62 (adOf (ρ 31)), vl (tSlice t_network_Packet) x1.Packets (ρ 29), vl (tInt .i64) x53.Message.To (.int .i64 x53.Message.To), pl (tInt .i64) x53.Message.To ad56, pl t_api_Message x53.Message ad55, pl t_network_Packet x53 ad54, vl (tSlice t_network_Packet) x1.Packets (.slice a51 (x1.Packets).length c52), vl (tSlice t_network_Packet) x1.Packets (.slice a38 (x1.Packets).length c39), vl t_network_Network x1 (.agg cs3.toArray)] [own t_network_Packet 51 (.slice a31 n33 c32) x30, blk g17 27 [.int .i64 x10.Next, .slice a31 n33 c32, .slice a14 n15 c16], own t_network_Side 69 (.slice a14 n15 c16) x10.Sides, blk g8 27 [.int .i64 0, .slice none 0 0, .slice none 0 0], blk g7 27 cs3] := hs
        obtain ⟨⟨a84, c85⟩, e86⟩ := hp7_
        have e86 : ρ 33 = .slice a84 ([x62]).length c85 := e86
        try rw [e86] at hs
        obtain ⟨cs87, e89⟩ := hp6_
        have e89 : ρ 32 = .agg cs87.toArray := e89
        try rw [e89] at hs
        obtain ⟨ad90, e91⟩ := hp5_
        have e91 : ρ 31 = .pointer (some ad90) := e91
        try rw [e91] at hs
        have e92 : ρ 30 = .int .i64 x29 := hp4_
        obtain ⟨⟨a93, c94⟩, e95⟩ := hp3_
        have e95 : ρ 29 = .slice a93 (x1.Packets).length c94 := e95
        try rw [e95] at hs
        have e96 : ρ 28 = .pointer (some ⟨g7, 1, none⟩) := hp2_
        have e97 : ρ 27 = .slice a31 n33 c32 := hp1_
        have e98 : ρ 26 = .pointer (some ⟨g17, 1, none⟩) := hp0_
        have hl88 := hs.agglen (n := 19) 1 rfl rfl rfl
        refine WA.step [8] (by kernel_rfl) (by simp) ⟨?_, trivial⟩
        obtain ⟨x99, hxx99, hf⟩ := bindE hf
        obtain ⟨hbx99, hex99⟩ := appE hxx99
        refine WL.appendS (zs := x99) hs 0 rfl 0 rfl UN25 UN25 EI51 e97 e86 hbx99 (by omega) hex99 (fun v100 w hs => ?_)
        obtain ⟨a101, n103, c102, rfl⟩ := hs.ownv3 0 rfl
        refine WL.nil ⟨rfl, _, rfl, ?_⟩
        refine WA.step [9] (by kernel_rfl) (by simp) ⟨?_, trivial⟩
        refine WL.fieldAddr (m := 1) ((hu83 5 rfl).trans h28_5) FA27_1 rfl ?_
        refine WL.nil ⟨rfl, _, rfl, ?_⟩
        refine WA.step [10] (by kernel_rfl) (by simp) ⟨?_, trivial⟩
        refine WL.store (vs := [.slice a101 n103 c102]) (cs' := [.int .i64 x10.Next, .slice a101 n103 c102, .slice a14 n15 c16]) hs 1 rfl TI25 rfl rfl rfl rfl (ones_of rfl) (Nat.le_of_ble_eq_true rfl) rfl (fun w hs => ?_)
        refine WL.nil ⟨rfl, _, rfl, ?_⟩
        refine WA.done (by kernel_rfl) ?_
        exact Jk47 x99 a101 c102 n103 _ _ ((hu83 1 rfl).trans h28_1) ((hu83 2 rfl).trans h28_2) ((hu83 4 rfl).trans h28_4) ((hu83 5 rfl).trans h28_5) ((hu83 6 rfl).trans h28_6) ((hs.mask [true, true, true, true, true]).pick [10]) hf
    · refine W.cond_false (bool_tr rfl hc58) ?_
      refine W.skip ?_
      exact Jk47 x30 a31 c32 n33 _ _ h28_1 h28_2 h28_4 h28_5 h28_6 ((hs.mask [true, true, true, true, true]).pick [6]) hf
  · refine W.cond_false (bool_tr rfl hc40) ?_
    refine W.exit ?_
    have hr := Option.some.inj hf; subst hr
    have hr := hbbs34 _ rfl; subst hr
    have hf := hfs34
    exact Jk25 x30 a31 c32 n33 _ _ h28_4 h28_5 ((hs.mask [true, true, true, true]).pick []) hf
theorem esref36_Purge.callc {ok : Nat → Prop} {w0 : World} {x1 : network_Network} {x5 : Int} {v2 : Value} {r : network_Network} (hf : esref36_Purge x1 x5 = some r) (i0 : (vl t_network_Network x1 v2).holds ok w0) :
    Calls Try.prog 38 #[v2, .int .i64 x5] w0 fun e w' => ∃ v, e = .returned v ∧ ∃ y : List Value, v = .agg y.toArray ∧ St ok (bz w0) w' [vl t_network_Network r (.agg y.toArray)] [] := by
  refine (esref36_Purge.calls (ok := ok) (w0 := w0) (x1 := x1) (x5 := x5) hf i0).mono ?_
  rintro e w' ⟨v, rfl, ⟨⟨a105, n106, c107⟩, ⟨a108, n109, c110⟩⟩, rfl, hs⟩
  obtain rfl := hs.ownLen 0 rfl
  have hs := hs.freezeOwn 0 rfl
  obtain rfl := hs.ownLen 0 rfl
  have hs := hs.freezeOwn 0 rfl
  have hs := hs.add (it := vl t_network_Network (⟨r.Next, r.Packets, r.Sides⟩ : network_Network) (.agg [.int .i64 r.Next, .slice a105 (r.Packets).length c107, .slice a108 (r.Sides).length c110].toArray)) fun ok hA => V_agg (show t_network_Network.R ok _ _ _ from ⟨[.int .i64 r.Next], [.slice a105 (r.Packets).length c107, .slice a108 (r.Sides).length c110], rfl, rfl, ⟨[.slice a105 (r.Packets).length c107], [.slice a108 (r.Sides).length c110], rfl, (R_one (hA.get 1 rfl)), (R_one (hA.get 0 rfl))⟩⟩) rfl
  exact ⟨_, rfl, [.int .i64 r.Next, .slice a105 (r.Packets).length c107, .slice a108 (r.Sides).length c110], rfl, hs.pick [0]⟩
/-! elasticstore/elasticstorelaw34.messages: function 11 -/
theorem eslaw34_messages.calls {ok : Nat → Prop} {w0 : World} {x1 : elasticstorelaw34_Act} {v2 : Value} {r : List api_Message} (hf : eslaw34_messages x1 = some r) (i0 : (vl t_elasticstorelaw34_Act x1 v2).holds ok w0) :
    Calls Try.prog 11 #[v2] w0 fun e w' => ∃ v, e = .returned v ∧ ∃ y : (Option Addr × Nat × Nat), v = .slice y.1 y.2.1 y.2.2 ∧ St ok (bz w0) w' [] [own t_api_Message 49 (.slice y.1 y.2.1 y.2.2) r] := by
  unfold eslaw34_messages at hf
  refine calls_of_W (fn := Try.f11) (N := 34) Try.func11 rfl Try.ntmps11 rfl ?_
  have hs : St ok (bz w0) w0 [vl t_elasticstorelaw34_Act x1 v2] [] := St.init (All.cons i0 All.nil)
  clear i0
  obtain ⟨cs3, hl4, rfl⟩ := hs.aggv (n := 4) 0 rfl rfl rfl
  refine W.seqK fun K5 hK5 => ?_
  refine W.region ?_
  refine WL.box (vs := cs3) hs rfl rfl (fun g6 w hs => ?_)
  refine WL.assign (v := .slice none 0 0) rfl ?_
  refine WL.nil ?_
  refine hK5 _ _ ?_
  refine W.seqK fun K7 hK7 => ?_
  refine W.region ?_
  refine WL.assign (v := .slice none 0 0) rfl ?_
  refine WL.nil ?_
  refine hK7 _ _ ?_
  refine W.seqK fun K8 hK8 => ?_
  have hs := hs.ownNil t_api_Message 49
  have Jk14 : ∀ (x10 : List api_Message) (a11 : Option Addr) (c12 : Nat) (n13 : Nat) (ρ : Env) (w : World), ρ 3 = .slice a11 n13 c12 → St ok (bz w0) w [] [own t_api_Message 49 (.slice a11 n13 c12) x10] → eslaw34_messages.j1 x10 = some r → K8 ρ w := by
    intro x10 a11 c12 n13 ρ w h9_3 hs hf
    refine hK8 _ _ ?_
    unfold eslaw34_messages.j1 at hf
    refine W.seqK fun K15 hK15 => ?_
    refine W.region ?_
    refine WL.move (v := .slice a11 n13 c12) h9_3 ?_
    refine WL.assign (v := .slice a11 n13 c12) rfl ?_
    refine WL.nil ?_
    refine hK15 _ _ ?_
    refine W.ret ?_
    have hr := Option.some.inj hf; subst hr
    exact ⟨_, resOk_one rfl rfl, (a11, n13, c12), rfl, (hs.mask [true]).pick []⟩
  refine W.seqK fun K16 hK16 => ?_
  refine W.region ?_
  refine WL.assign (v := .int .i64 0) rfl ?_
  refine WL.nil ?_
  refine hK16 _ _ ?_
  refine W.block ?_
  obtain ⟨bs23, hbs23, hfs23⟩ := bindE hf
  refine W.loop hbs23 (fun s ρ w => match s with | (x18, x22) => ∃ (a19 : Option Addr), ∃ (c20 : Nat), ∃ (n21 : Nat), ρ 1 = .pointer (some ⟨g6, 0, none⟩) ∧ ρ 3 = .slice a19 n21 c20 ∧ ρ 4 = .int .i64 x22 ∧ St ok (bz w0) w [vl t_elasticstorelaw34_Act x1 (.agg cs3.toArray)] [own t_api_Message 49 (.slice a19 n21 c20) x18, blk g6 33 cs3]) ⟨none, 0, 0, rfl, rfl, rfl, (hs.mask [true, true]).pick [0]⟩ ?_
  intro s ρ w os23 hI hf hbbs23
  obtain ⟨x18, x22⟩ := s
  obtain ⟨a19, c20, n21, h17_1, h17_3, h17_4, hs⟩ := hI
  unfold eslaw34_messages.l1 at hf
  refine W.seqK fun K24 hK24 => ?_
  refine W.seqK fun K25 hK25 => ?_
  refine W.region ?_
  refine WL.move (v := .int .i64 x22) h17_4 ?_
  refine WL.fieldAddr (m := 2) h17_1 FA33_2 rfl ?_
  refine WL.loadF (z := x1.M) F_elasticstorelaw34_Act_M hs 1 rfl 0 rfl rfl TI3 (.inr rfl) rfl rfl (fun v26 hs => ?_)
  obtain rfl := hs.int 0 rfl
  obtain ⟨x27, hxx27, hf⟩ := bindE hf
  refine WL.call (vs := [.int .i64 x1.M, .int .i64 4]) hs FN17 ⟨rfl, ⟨rfl, trivial⟩⟩ (fun ok hA => eslaw00_Index.calls (x1 := x1.M) (x2 := 4) hxx27) ?_
  rintro _ w hs
  refine WL.bin (v := .bool (decide (x22 < x27))) rfl rfl (ib_lss _ _ _) ?_
  refine WL.nil ?_
  refine hK25 _ _ ?_
  rcases iteE hf with ⟨hc28, hf⟩ | ⟨hc28, hf⟩
  · refine W.cond_true (bool_tr rfl hc28) ?_
    refine W.skip ?_
    refine hK24 _ _ ?_
    refine W.seqK fun K29 hK29 => ?_
    refine W.block ?_
    obtain ⟨x30, ex30, hf⟩ := letE hf
    obtain ⟨x32, ex32, hf⟩ := letE hf
    obtain ⟨hn34, hf⟩ := guardE hf
    obtain ⟨x33, ex33, hf⟩ := letE hf
    obtain ⟨x35, hxx35, hf⟩ := bindE hf
    obtain ⟨x36, ex36, hf⟩ := letE hf
    obtain ⟨x38, ex38, hf⟩ := letE hf
    obtain ⟨hn40, hf⟩ := guardE hf
    obtain ⟨x39, ex39, hf⟩ := letE hf
    obtain ⟨x41, hxx41, hf⟩ := bindE hf
    obtain ⟨x42, ex42, hf⟩ := letE hf
    refine W.any (by kernel_rfl) 20 2 [true, true, true, true, true, true, true, true, true, true, true, true, true, true, true, true, true, true, true, true, false, false] rfl rfl (poAt [pv (.slice a19 n21 c20), pv (.int .i64 x22), pv (.int .i64 x30), pv (.pointer (some ⟨g6, 1, none⟩)), pv (.int .i64 x1.N), pv (.int .i64 x22), pv (.int .i64 x32), pv (.int .i64 x33), pv (.int .i64 x35), pv (.int .i64 x36), pv (.pointer (some ⟨g6, 1, none⟩)), pv (.int .i64 x1.N), pv (.int .i64 x22), pv (.int .i64 x38), pv (.int .i64 x39), pv (.int .i64 x41), pv (.int .i64 x42), pv (.int .i64 x22), pv (.agg ([.int .i64 x30, .int .i64 x36, .int .i64 x42, .int .i64 0, .int .i64 0, .int .i64 x22, .int .i64 0, .slice none 0 0, .slice none 0 0, .slice none 0 0, .slice none 0 0, .bool false, .slice none 0 0, .slice none 0 0, .slice none 0 0, .slice none 0 0, .slice none 0 0, .bool false] : List Value).toArray), pq (fun y : (Option Addr × Nat) => .slice y.1 ([(⟨x30, x36, x42, (⟨0, 0⟩ : api_AccessID), x22, 0, (⟨[], []⟩ : api_Certificate), (⟨[], []⟩ : api_Certificate), false, (⟨[], []⟩ : api_Certificate), [], [], [], false⟩ : api_Message)]).length y.2) (fun v => [vl (tSlice t_api_Message) ([(⟨x30, x36, x42, (⟨0, 0⟩ : api_AccessID), x22, 0, (⟨[], []⟩ : api_Certificate), (⟨[], []⟩ : api_Certificate), false, (⟨[], []⟩ : api_Certificate), [], [], [], false⟩ : api_Message)]) v]) (fun v => [])]) (Λ := [own t_api_Message 49 (.slice a19 n21 c20) x18, blk g6 33 cs3]) hs (by kernel_rfl) (by kernel_rfl) (by kernel_rfl) ⟨⟨⟨⟨⟨⟨⟨⟨⟨⟨⟨⟨⟨⟨⟨⟨⟨⟨⟨⟨trivial, ?_⟩, ?_⟩, ?_⟩, ?_⟩, ?_⟩, ?_⟩, ?_⟩, ?_⟩, ?_⟩, ?_⟩, ?_⟩, ?_⟩, ?_⟩, ?_⟩, ?_⟩, ?_⟩, ?_⟩, ?_⟩, ?_⟩, ?_⟩ ?_
    · intro ρ w Γx Λx hs hu hp
      refine WL.move (v := .slice a19 n21 c20) ((hu 3 rfl).trans h17_3) ?_
      exact WL.nil ⟨rfl, _, rfl, rfl, hs.cutG 0 0⟩
    · intro ρ w Γx Λx hs hu hp
      refine WL.move (v := .int .i64 x22) ((hu 4 rfl).trans h17_4) ?_
      exact WL.nil ⟨rfl, _, rfl, rfl, hs.cutG 0 0⟩
    · intro ρ w Γx Λx hs hu hp
      have e45 : ρ 13 = .int .i64 x22 := (hp 1 rfl).1
      refine WL.bin (v := .int .i64 x30) rfl e45 (ib_as ex30 (ib_add _ _ _)) ?_
      exact WL.nil ⟨rfl, _, rfl, rfl, hs.cutG 0 0⟩
    · intro ρ w Γx Λx hs hu hp
      refine WL.fieldAddr (m := 1) ((hu 1 rfl).trans h17_1) FA33_1 rfl ?_
      exact WL.nil ⟨rfl, _, rfl, rfl, hs.cutG 0 0⟩
    · intro ρ w Γx Λx hs hu hp
      have e46 : ρ 15 = .pointer (some ⟨g6, 1, none⟩) := (hp 3 rfl).1
      refine WL.loadF (z := x1.N) F_elasticstorelaw34_Act_N hs (Λx.length + 1) (getApp rfl) (Γx.length + 1) (getApp rfl) rfl TI3 (.inr rfl) e46 rfl (fun v31 hs => ?_)
      obtain rfl := hs.int 0 rfl
      exact WL.nil ⟨rfl, _, rfl, rfl, hs.cutG 0 1⟩
    · intro ρ w Γx Λx hs hu hp
      refine WL.move (v := .int .i64 x22) ((hu 4 rfl).trans h17_4) ?_
      exact WL.nil ⟨rfl, _, rfl, rfl, hs.cutG 0 0⟩
    · intro ρ w Γx Λx hs hu hp
      have e47 : ρ 17 = .int .i64 x22 := (hp 5 rfl).1
      refine WL.bin (v := .int .i64 x32) e47 rfl (ib_as ex32 (ib_add _ _ _)) ?_
      exact WL.nil ⟨rfl, _, rfl, rfl, hs.cutG 0 0⟩
    · intro ρ w Γx Λx hs hu hp
      have e48 : ρ 16 = .int .i64 x1.N := (hp 4 rfl).1
      have e49 : ρ 18 = .int .i64 x32 := (hp 6 rfl).1
      refine WL.bin (v := .int .i64 x33) e48 e49 (ib_as ex33 (ib_quo _ _ _ hn34)) ?_
      exact WL.nil ⟨rfl, _, rfl, rfl, hs.cutG 0 0⟩
    · intro ρ w Γx Λx hs hu hp
      have e50 : ρ 19 = .int .i64 x33 := (hp 7 rfl).1
      refine WL.call (vs := [.int .i64 x33, .int .i64 5]) hs FN17 ⟨e50, ⟨rfl, trivial⟩⟩ (fun ok hA => eslaw00_Index.calls (x1 := x33) (x2 := 5) hxx35) ?_
      rintro _ w hs
      exact WL.nil ⟨rfl, _, rfl, rfl, hs.cutG 0 0⟩
    · intro ρ w Γx Λx hs hu hp
      have e51 : ρ 20 = .int .i64 x35 := (hp 8 rfl).1
      refine WL.bin (v := .int .i64 x36) rfl e51 (ib_as ex36 (ib_add _ _ _)) ?_
      exact WL.nil ⟨rfl, _, rfl, rfl, hs.cutG 0 0⟩
    · intro ρ w Γx Λx hs hu hp
      refine WL.fieldAddr (m := 1) ((hu 1 rfl).trans h17_1) FA33_1 rfl ?_
      exact WL.nil ⟨rfl, _, rfl, rfl, hs.cutG 0 0⟩
    · intro ρ w Γx Λx hs hu hp
      have e52 : ρ 22 = .pointer (some ⟨g6, 1, none⟩) := (hp 10 rfl).1
      refine WL.loadF (z := x1.N) F_elasticstorelaw34_Act_N hs (Λx.length + 1) (getApp rfl) (Γx.length + 1) (getApp rfl) rfl TI3 (.inr rfl) e52 rfl (fun v37 hs => ?_)
      obtain rfl := hs.int 0 rfl
      exact WL.nil ⟨rfl, _, rfl, rfl, hs.cutG 0 1⟩
    · intro ρ w Γx Λx hs hu hp
      refine WL.move (v := .int .i64 x22) ((hu 4 rfl).trans h17_4) ?_
      exact WL.nil ⟨rfl, _, rfl, rfl, hs.cutG 0 0⟩
    · intro ρ w Γx Λx hs hu hp
      have e53 : ρ 24 = .int .i64 x22 := (hp 12 rfl).1
      refine WL.bin (v := .int .i64 x38) e53 rfl (ib_as ex38 (ib_add _ _ _)) ?_
      exact WL.nil ⟨rfl, _, rfl, rfl, hs.cutG 0 0⟩
    · intro ρ w Γx Λx hs hu hp
      have e54 : ρ 23 = .int .i64 x1.N := (hp 11 rfl).1
      have e55 : ρ 25 = .int .i64 x38 := (hp 13 rfl).1
      refine WL.bin (v := .int .i64 x39) e54 e55 (ib_as ex39 (ib_quo _ _ _ hn40)) ?_
      exact WL.nil ⟨rfl, _, rfl, rfl, hs.cutG 0 0⟩
    · intro ρ w Γx Λx hs hu hp
      have e56 : ρ 26 = .int .i64 x39 := (hp 14 rfl).1
      refine WL.call (vs := [.int .i64 x39, .int .i64 5]) hs FN17 ⟨e56, ⟨rfl, trivial⟩⟩ (fun ok hA => eslaw00_Index.calls (x1 := x39) (x2 := 5) hxx41) ?_
      rintro _ w hs
      exact WL.nil ⟨rfl, _, rfl, rfl, hs.cutG 0 0⟩
    · intro ρ w Γx Λx hs hu hp
      have e57 : ρ 27 = .int .i64 x41 := (hp 15 rfl).1
      refine WL.bin (v := .int .i64 x42) rfl e57 (ib_as ex42 (ib_add _ _ _)) ?_
      exact WL.nil ⟨rfl, _, rfl, rfl, hs.cutG 0 0⟩
    · intro ρ w Γx Λx hs hu hp
      refine WL.move (v := .int .i64 x22) ((hu 4 rfl).trans h17_4) ?_
      exact WL.nil ⟨rfl, _, rfl, rfl, hs.cutG 0 0⟩
    · intro ρ w Γx Λx hs hu hp
      have e58 : ρ 14 = .int .i64 x30 := (hp 2 rfl).1
      have e59 : ρ 21 = .int .i64 x36 := (hp 9 rfl).1
      have e60 : ρ 28 = .int .i64 x42 := (hp 16 rfl).1
      have e61 : ρ 29 = .int .i64 x22 := (hp 17 rfl).1
      refine WL.build (vs := [(0, .int .i64 x30), (1, .int .i64 x36), (2, .int .i64 x42), (4, .int .i64 x22)]) (cs := [.int .i64 x30, .int .i64 x36, .int .i64 x42, .int .i64 0, .int .i64 0, .int .i64 x22, .int .i64 0, .slice none 0 0, .slice none 0 0, .slice none 0 0, .slice none 0 0, .bool false, .slice none 0 0, .slice none 0 0, .slice none 0 0, .slice none 0 0, .slice none 0 0, .bool false]) ⟨⟨rfl, e58⟩, ⟨⟨rfl, e59⟩, ⟨⟨rfl, e60⟩, ⟨⟨rfl, e61⟩, trivial⟩⟩⟩⟩ (bld PL49 rfl) ?_
      exact WL.nil ⟨rfl, _, rfl, rfl, hs.cutG 0 0⟩
    · intro ρ w Γx Λx hs hu hp
      have e62 : ρ 30 = .agg ([.int .i64 x30, .int .i64 x36, .int .i64 x42, .int .i64 0, .int .i64 0, .int .i64 x22, .int .i64 0, .slice none 0 0, .slice none 0 0, .slice none 0 0, .slice none 0 0, .bool false, .slice none 0 0, .slice none 0 0, .slice none 0 0, .slice none 0 0, .slice none 0 0, .bool false] : List Value).toArray := (hp 18 rfl).1
      refine WL.buildSliceB (ys := [(⟨x30, x36, x42, (⟨0, 0⟩ : api_AccessID), x22, 0, (⟨[], []⟩ : api_Certificate), (⟨[], []⟩ : api_Certificate), false, (⟨[], []⟩ : api_Certificate), [], [], [], false⟩ : api_Message)]) (n := 1) (vs := [(0, .agg ([.int .i64 x30, .int .i64 x36, .int .i64 x42, .int .i64 0, .int .i64 0, .int .i64 x22, .int .i64 0, .slice none 0 0, .slice none 0 0, .slice none 0 0, .slice none 0 0, .bool false, .slice none 0 0, .slice none 0 0, .slice none 0 0, .slice none 0 0, .slice none 0 0, .bool false] : List Value).toArray)]) (cs := [.int .i64 x30, .int .i64 x36, .int .i64 x42, .int .i64 0, .int .i64 0, .int .i64 x22, .int .i64 0, .slice none 0 0, .slice none 0 0, .slice none 0 0, .slice none 0 0, .bool false, .slice none 0 0, .slice none 0 0, .slice none 0 0, .slice none 0 0, .slice none 0 0, .bool false]) hs ⟨⟨rfl, e62⟩, trivial⟩ (bls PS30 (by decide) rfl) (fun ok hA => (Cells.one (T := t_api_Message) (show t_api_Message.R ok _ (⟨x30, x36, x42, (⟨0, 0⟩ : api_AccessID), x22, 0, (⟨[], []⟩ : api_Certificate), (⟨[], []⟩ : api_Certificate), false, (⟨[], []⟩ : api_Certificate), [], [], [], false⟩ : api_Message) _ from ⟨[.int .i64 x30], [.int .i64 x36, .int .i64 x42, .int .i64 0, .int .i64 0, .int .i64 x22, .int .i64 0, .slice none 0 0, .slice none 0 0, .slice none 0 0, .slice none 0 0, .bool false, .slice none 0 0, .slice none 0 0, .slice none 0 0, .slice none 0 0, .slice none 0 0, .bool false], rfl, rfl, ⟨[.int .i64 x36], [.int .i64 x42, .int .i64 0, .int .i64 0, .int .i64 x22, .int .i64 0, .slice none 0 0, .slice none 0 0, .slice none 0 0, .slice none 0 0, .bool false, .slice none 0 0, .slice none 0 0, .slice none 0 0, .slice none 0 0, .slice none 0 0, .bool false], rfl, rfl, ⟨[.int .i64 x42], [.int .i64 0, .int .i64 0, .int .i64 x22, .int .i64 0, .slice none 0 0, .slice none 0 0, .slice none 0 0, .slice none 0 0, .bool false, .slice none 0 0, .slice none 0 0, .slice none 0 0, .slice none 0 0, .slice none 0 0, .bool false], rfl, rfl, ⟨[.int .i64 0, .int .i64 0], [.int .i64 x22, .int .i64 0, .slice none 0 0, .slice none 0 0, .slice none 0 0, .slice none 0 0, .bool false, .slice none 0 0, .slice none 0 0, .slice none 0 0, .slice none 0 0, .slice none 0 0, .bool false], rfl, ⟨[.int .i64 0], [.int .i64 0], rfl, rfl, rfl⟩, ⟨[.int .i64 x22], [.int .i64 0, .slice none 0 0, .slice none 0 0, .slice none 0 0, .slice none 0 0, .bool false, .slice none 0 0, .slice none 0 0, .slice none 0 0, .slice none 0 0, .slice none 0 0, .bool false], rfl, rfl, ⟨[.int .i64 0], [.slice none 0 0, .slice none 0 0, .slice none 0 0, .slice none 0 0, .bool false, .slice none 0 0, .slice none 0 0, .slice none 0 0, .slice none 0 0, .slice none 0 0, .bool false], rfl, rfl, ⟨[.slice none 0 0, .slice none 0 0], [.slice none 0 0, .slice none 0 0, .bool false, .slice none 0 0, .slice none 0 0, .slice none 0 0, .slice none 0 0, .slice none 0 0, .bool false], rfl, ⟨[.slice none 0 0], [.slice none 0 0], rfl, R_nil, R_nil⟩, ⟨[.slice none 0 0, .slice none 0 0], [.bool false, .slice none 0 0, .slice none 0 0, .slice none 0 0, .slice none 0 0, .slice none 0 0, .bool false], rfl, ⟨[.slice none 0 0], [.slice none 0 0], rfl, R_nil, R_nil⟩, ⟨[.bool false], [.slice none 0 0, .slice none 0 0, .slice none 0 0, .slice none 0 0, .slice none 0 0, .bool false], rfl, rfl, ⟨[.slice none 0 0, .slice none 0 0], [.slice none 0 0, .slice none 0 0, .slice none 0 0, .bool false], rfl, ⟨[.slice none 0 0], [.slice none 0 0], rfl, R_nil, R_nil⟩, ⟨[.slice none 0 0], [.slice none 0 0, .slice none 0 0, .bool false], rfl, R_nil, ⟨[.slice none 0 0], [.slice none 0 0, .bool false], rfl, R_nil, ⟨[.slice none 0 0], [.bool false], rfl, R_nil, rfl⟩⟩⟩⟩⟩⟩⟩⟩⟩⟩⟩⟩⟩))) rfl (by decide) (fun a44 w hBl hs => ?_)
      have hs := hs.add (it := vl (tSlice t_api_Message) ([(⟨x30, x36, x42, (⟨0, 0⟩ : api_AccessID), x22, 0, (⟨[], []⟩ : api_Certificate), (⟨[], []⟩ : api_Certificate), false, (⟨[], []⟩ : api_Certificate), [], [], [], false⟩ : api_Message)]) (.slice a44 ([(⟨x30, x36, x42, (⟨0, 0⟩ : api_AccessID), x22, 0, (⟨[], []⟩ : api_Certificate), (⟨[], []⟩ : api_Certificate), false, (⟨[], []⟩ : api_Certificate), [], [], [], false⟩ : api_Message)]).length 1)) fun ok hA => hA.get 0 rfl
      exact WL.nil ⟨rfl, _, rfl, ⟨(a44, 1), rfl⟩, hs.cutG 1 1⟩
    · intro ρ w hs hu63 hp
      obtain ⟨⟨⟨⟨⟨⟨⟨⟨⟨⟨⟨⟨⟨⟨⟨⟨⟨⟨⟨⟨_, hp0_⟩, hp1_⟩, hp2_⟩, hp3_⟩, hp4_⟩, hp5_⟩, hp6_⟩, hp7_⟩, hp8_⟩, hp9_⟩, hp10_⟩, hp11_⟩, hp12_⟩, hp13_⟩, hp14_⟩, hp15_⟩, hp16_⟩, hp17_⟩, hp18_⟩, hp19_⟩ := hp
      have hs : St ok (bz w0) w [vl (tSlice t_api_Message) ([(⟨x30, x36, x42, (⟨0, 0⟩ : api_AccessID), x22, 0, (⟨[], []⟩ : api_Certificate), (⟨[], []⟩ : api_Certificate), false, (⟨[], []⟩ : api_Certificate), [], [], [], false⟩ : api_Message)]) (ρ 31), vl (tInt .i64) x1.M (.int .i64 x1.M), vl t_elasticstorelaw34_Act x1 (.agg cs3.toArray)] [own t_api_Message 49 (.slice a19 n21 c20) x18, blk g6 33 cs3] := hs
      obtain ⟨⟨a64, c65⟩, e66⟩ := hp19_
      have e66 : ρ 31 = .slice a64 ([(⟨x30, x36, x42, (⟨0, 0⟩ : api_AccessID), x22, 0, (⟨[], []⟩ : api_Certificate), (⟨[], []⟩ : api_Certificate), false, (⟨[], []⟩ : api_Certificate), [], [], [], false⟩ : api_Message)]).length c65 := e66
      try rw [e66] at hs
      have e67 : ρ 30 = .agg ([.int .i64 x30, .int .i64 x36, .int .i64 x42, .int .i64 0, .int .i64 0, .int .i64 x22, .int .i64 0, .slice none 0 0, .slice none 0 0, .slice none 0 0, .slice none 0 0, .bool false, .slice none 0 0, .slice none 0 0, .slice none 0 0, .slice none 0 0, .slice none 0 0, .bool false] : List Value).toArray := hp18_
      have e68 : ρ 29 = .int .i64 x22 := hp17_
      have e69 : ρ 28 = .int .i64 x42 := hp16_
      have e70 : ρ 27 = .int .i64 x41 := hp15_
      have e71 : ρ 26 = .int .i64 x39 := hp14_
      have e72 : ρ 25 = .int .i64 x38 := hp13_
      have e73 : ρ 24 = .int .i64 x22 := hp12_
      have e74 : ρ 23 = .int .i64 x1.N := hp11_
      have e75 : ρ 22 = .pointer (some ⟨g6, 1, none⟩) := hp10_
      have e76 : ρ 21 = .int .i64 x36 := hp9_
      have e77 : ρ 20 = .int .i64 x35 := hp8_
      have e78 : ρ 19 = .int .i64 x33 := hp7_
      have e79 : ρ 18 = .int .i64 x32 := hp6_
      have e80 : ρ 17 = .int .i64 x22 := hp5_
      have e81 : ρ 16 = .int .i64 x1.N := hp4_
      have e82 : ρ 15 = .pointer (some ⟨g6, 1, none⟩) := hp3_
      have e83 : ρ 14 = .int .i64 x30 := hp2_
      have e84 : ρ 13 = .int .i64 x22 := hp1_
      have e85 : ρ 12 = .slice a19 n21 c20 := hp0_
      refine WA.step [20] (by kernel_rfl) (by simp) ⟨?_, trivial⟩
      obtain ⟨x86, hxx86, hf⟩ := bindE hf
      obtain ⟨hbx86, hex86⟩ := appE hxx86
      refine WL.appendS (zs := x86) hs 0 rfl 0 rfl UN30 UN30 EI49 e85 e66 hbx86 (by omega) hex86 (fun v87 w hs => ?_)
      obtain ⟨a88, n90, c89, rfl⟩ := hs.ownv3 0 rfl
      refine WL.nil ⟨rfl, _, rfl, ?_⟩
      refine WA.step [21] (by kernel_rfl) (by simp) ⟨?_, trivial⟩
      refine WL.assign (v := .slice a88 n90 c89) rfl ?_
      refine WL.nil ⟨rfl, _, rfl, ?_⟩
      refine WA.done (by kernel_rfl) ?_
      refine hK29 _ _ ?_
      refine W.region ?_
      refine WL.move (v := .int .i64 x22) ((hu63 4 rfl).trans h17_4) ?_
      obtain ⟨x91, ex91, hf⟩ := letE hf
      refine WL.bin (v := .int .i64 x91) rfl rfl (ib_as ex91 (ib_add _ _ _)) ?_
      refine WL.assign (v := .int .i64 x91) rfl ?_
      refine WL.nil ?_
      exact ⟨_, (Option.some.inj hf).symm, a88, c89, n90, ((hu63 1 rfl).trans h17_1), rfl, rfl, (hs.mask [true, true]).pick [2]⟩
  · refine W.cond_false (bool_tr rfl hc28) ?_
    refine W.exit ?_
    have hr := Option.some.inj hf; subst hr
    have hr := hbbs23 _ rfl; subst hr
    have hf := hfs23
    exact Jk14 x18 a19 c20 n21 _ _ h17_3 ((hs.mask [true]).pick []) hf
theorem eslaw34_messages.callc {ok : Nat → Prop} {w0 : World} {x1 : elasticstorelaw34_Act} {v2 : Value} {r : List api_Message} (hf : eslaw34_messages x1 = some r) (i0 : (vl t_elasticstorelaw34_Act x1 v2).holds ok w0) :
    Calls Try.prog 11 #[v2] w0 fun e w' => ∃ v, e = .returned v ∧ ∃ y : (Option Addr × Nat), v = .slice y.1 r.length y.2 ∧ St ok (bz w0) w' [vl (tSlice t_api_Message) r (.slice y.1 r.length y.2)] [] := by
  refine (eslaw34_messages.calls (ok := ok) (w0 := w0) (x1 := x1) hf i0).mono ?_
  rintro e w' ⟨v, rfl, ⟨a93, n94, c95⟩, rfl, hs⟩
  obtain rfl := hs.ownLen 0 rfl
  have hs := hs.freezeOwn 0 rfl
  exact ⟨_, rfl, (a93, c95), rfl, hs.pick [0]⟩
end Go.Proofs.Ytahobbichanccaa
