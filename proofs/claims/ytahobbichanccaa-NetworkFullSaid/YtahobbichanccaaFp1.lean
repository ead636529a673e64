import Derived.Test.YtahobbichanccaaFh
import Derived.Test.YtahobbichanccaaFp0
set_option linter.unusedVariables false
set_option linter.unusedSimpArgs false
namespace Go.Proofs.Ytahobbichanccaa
open Go Go.RowKit Go.Proofs.YtahobbichanccaaL
set_option maxRecDepth 100000
set_option maxHeartbeats 4000000
/-! elasticstore/network.Blocked: function 13 -/
theorem network_Blocked.calls {ok : Nat → Prop} {w0 : World} {x1 : network_Network} {x5 : Int} {x6 : Int} {v2 : Value} {r : Bool} (hf : network_Blocked x1 x5 x6 = some r) (i0 : (vl t_network_Network x1 v2).holds ok w0) :
    Calls Try.prog 13 #[v2, .int .i64 x5, .int .i64 x6] w0 fun e w' => ∃ v, e = .returned v ∧ ∃ y : Unit, v = .bool r ∧ St ok (bz w0) w' [] [] := by
  unfold network_Blocked at hf
  refine calls_of_W (fn := Try.f13) (N := 14) Try.func13 rfl Try.ntmps13 rfl ?_
  have hs : St ok (bz w0) w0 [vl t_network_Network x1 v2] [] := St.init (All.cons i0 All.nil)
  clear i0
  obtain ⟨cs3, hl4, rfl⟩ := hs.aggv (n := 3) 0 rfl rfl rfl
  refine W.seqK fun K7 hK7 => ?_
  refine W.region ?_
  refine WL.box (vs := cs3) hs rfl rfl (fun g8 w hs => ?_)
  refine WL.assign (v := .bool false) rfl ?_
  refine WL.nil ?_
  refine hK7 _ _ ?_
  refine W.seqK fun K9 hK9 => ?_
  obtain ⟨x10, hxx10, hf⟩ := bindE hf
  obtain ⟨x11, hxx11, hf⟩ := bindE hf
  refine W.any (by kernel_rfl) 7 1 [true, true, true, true, true, true, true, false] rfl rfl (poAt [pv (.agg cs3.toArray), pv (.int .i64 x5), pv (.int .i64 x10), pv (.agg cs3.toArray), pv (.int .i64 x6), pv (.int .i64 x11), pv (.bool (x10 != x11))]) (Λ := [blk g8 27 cs3]) hs (by kernel_rfl) (by kernel_rfl) (by kernel_rfl) ⟨⟨⟨⟨⟨⟨⟨trivial, ?_⟩, ?_⟩, ?_⟩, ?_⟩, ?_⟩, ?_⟩, ?_⟩ ?_
  · intro ρ w Γx Λx hs hu hp
    refine WL.loadAll hs (Λx.length + 0) (getApp rfl) TI27 (hu 3 rfl) hl4 ?_
    exact WL.nil ⟨rfl, _, rfl, rfl, hs.cutG 0 0⟩
  · intro ρ w Γx Λx hs hu hp
    refine WL.move (v := .int .i64 x5) (hu 1 rfl) ?_
    exact WL.nil ⟨rfl, _, rfl, rfl, hs.cutG 0 0⟩
  · intro ρ w Γx Λx hs hu hp
    have e12 : ρ 7 = .agg cs3.toArray := (hp 0 rfl).1
    have e13 : ρ 8 = .int .i64 x5 := (hp 1 rfl).1
    refine WL.call (vs := [.agg cs3.toArray, .int .i64 x5]) hs FN31 ⟨e12, ⟨e13, trivial⟩⟩ (fun ok hA => network_side.calls (x1 := x1) (x5 := x5) hxx10 (hA.get (Γx.length + 0) (getApp rfl))) ?_
    rintro _ w hs
    exact WL.nil ⟨rfl, _, rfl, rfl, hs.cutG 0 0⟩
  · intro ρ w Γx Λx hs hu hp
    refine WL.loadAll hs (Λx.length + 0) (getApp rfl) TI27 (hu 3 rfl) hl4 ?_
    exact WL.nil ⟨rfl, _, rfl, rfl, hs.cutG 0 0⟩
  · intro ρ w Γx Λx hs hu hp
    refine WL.move (v := .int .i64 x6) (hu 2 rfl) ?_
    exact WL.nil ⟨rfl, _, rfl, rfl, hs.cutG 0 0⟩
  · intro ρ w Γx Λx hs hu hp
    have e14 : ρ 10 = .agg cs3.toArray := (hp 3 rfl).1
    have e15 : ρ 11 = .int .i64 x6 := (hp 4 rfl).1
    refine WL.call (vs := [.agg cs3.toArray, .int .i64 x6]) hs FN31 ⟨e14, ⟨e15, trivial⟩⟩ (fun ok hA => network_side.calls (x1 := x1) (x5 := x6) hxx11 (hA.get (Γx.length + 0) (getApp rfl))) ?_
    rintro _ w hs
    exact WL.nil ⟨rfl, _, rfl, rfl, hs.cutG 0 0⟩
  · intro ρ w Γx Λx hs hu hp
    have e16 : ρ 9 = .int .i64 x10 := (hp 2 rfl).1
    have e17 : ρ 12 = .int .i64 x11 := (hp 5 rfl).1
    refine WL.bin (v := .bool (x10 != x11)) e16 e17 (ib_neq _ _ _) ?_
    exact WL.nil ⟨rfl, _, rfl, rfl, hs.cutG 0 0⟩
  · intro ρ w hs hu18 hp
    obtain ⟨⟨⟨⟨⟨⟨⟨_, hp0_⟩, hp1_⟩, hp2_⟩, hp3_⟩, hp4_⟩, hp5_⟩, hp6_⟩ := hp
    have hs : St ok (bz w0) w [vl t_network_Network x1 (.agg cs3.toArray)] [blk g8 27 cs3] := hs
    have e19 : ρ 13 = .bool (x10 != x11) := hp6_
    have e20 : ρ 12 = .int .i64 x11 := hp5_
    have e21 : ρ 11 = .int .i64 x6 := hp4_
    have e22 : ρ 10 = .agg cs3.toArray := hp3_
    have e23 : ρ 9 = .int .i64 x10 := hp2_
    have e24 : ρ 8 = .int .i64 x5 := hp1_
    have e25 : ρ 7 = .agg cs3.toArray := hp0_
    refine WA.step [7] (by kernel_rfl) (by simp) ⟨?_, trivial⟩
    refine WL.assign (v := .bool (x10 != x11)) e19 ?_
    refine WL.nil ⟨rfl, _, rfl, ?_⟩
    refine WA.done (by kernel_rfl) ?_
    refine hK9 _ _ ?_
    refine W.ret ?_
    have hr := Option.some.inj hf; subst hr
    exact ⟨_, resOk_one rfl rfl, (), rfl, (hs.mask []).pick []⟩
/-! elasticstore/network.Deliverable: function 14 -/
theorem network_Deliverable.calls {ok : Nat → Prop} {w0 : World} {x1 : network_Network} {v2 : Value} {r : List Int} (hf : network_Deliverable x1 = some r) (i0 : (vl t_network_Network x1 v2).holds ok w0) :
    Calls Try.prog 14 #[v2] w0 fun e w' => ∃ v, e = .returned v ∧ ∃ y : (Option Addr × Nat × Nat), v = .slice y.1 y.2.1 y.2.2 ∧ St ok (bz w0) w' [] [own (tInt .i64) 3 (.slice y.1 y.2.1 y.2.2) r] := by
  unfold network_Deliverable at hf
  refine calls_of_W (fn := Try.f14) (N := 29) Try.func14 rfl Try.ntmps14 rfl ?_
  have hs : St ok (bz w0) w0 [vl t_network_Network x1 v2] [] := St.init (All.cons i0 All.nil)
  clear i0
  obtain ⟨cs3, hl4, rfl⟩ := hs.aggv (n := 3) 0 rfl rfl rfl
  refine W.seqK fun K5 hK5 => ?_
  refine W.region ?_
  refine WL.box (vs := cs3) hs rfl rfl (fun g6 w hs => ?_)
  refine WL.assign (v := .slice none 0 0) rfl ?_
  refine WL.nil ?_
  refine hK5 _ _ ?_
  refine W.seqK fun K7 hK7 => ?_
  refine W.region ?_
  refine WL.assign (v := .slice none 0 0) rfl ?_
  refine WL.nil ?_
  refine hK7 _ _ ?_
  refine W.seqK fun K8 hK8 => ?_
  have hs := hs.ownNil (tInt .i64) 3
  have Jk14 : ∀ (x10 : List Int) (a11 : Option Addr) (c12 : Nat) (n13 : Nat) (ρ : Env) (w : World), ρ 3 = .slice a11 n13 c12 → St ok (bz w0) w [] [own (tInt .i64) 3 (.slice a11 n13 c12) x10] → network_Deliverable.j1 x10 = some r → K8 ρ w := by
    intro x10 a11 c12 n13 ρ w h9_3 hs hf
    refine hK8 _ _ ?_
    unfold network_Deliverable.j1 at hf
    refine W.seqK fun K15 hK15 => ?_
    refine W.region ?_
    refine WL.move (v := .slice a11 n13 c12) h9_3 ?_
    refine WL.assign (v := .slice a11 n13 c12) rfl ?_
    refine WL.nil ?_
    refine hK15 _ _ ?_
    refine W.ret ?_
    have hr := Option.some.inj hf; subst hr
    exact ⟨_, resOk_one rfl rfl, (a11, n13, c12), rfl, (hs.mask [true]).pick []⟩
  refine W.seqK fun K16 hK16 => ?_
  refine W.region ?_
  refine WL.fieldAddr (m := 1) rfl FA27_1 rfl ?_
  refine WL.loadF (z := x1.Packets) F_network_Network_Packets hs 1 rfl 0 rfl rfl TI25 (.inr rfl) rfl rfl (fun v17 hs => ?_)
  obtain ⟨a18, c19, rfl⟩ := hs.slice 0 rfl
  refine WL.len (v := .slice a18 (x1.Packets).length c19) rfl (len_slice UN25) ?_
  refine WL.move (v := .int .i64 0) rfl ?_
  refine WL.nil ?_
  refine hK16 _ _ ?_
  refine W.block ?_
  obtain ⟨bs26, hbs26, hfs26⟩ := bindE hf
  refine W.loop hbs26 (fun s ρ w => match s with | (x21, x25) => ∃ (a22 : Option Addr), ∃ (c23 : Nat), ∃ (n24 : Nat), ρ 1 = .pointer (some ⟨g6, 0, none⟩) ∧ ρ 3 = .slice a22 n24 c23 ∧ ρ 7 = .slice a18 (x1.Packets).length c19 ∧ ρ 8 = .int .i64 ((x1.Packets).length : Int) ∧ ρ 9 = .int .i64 x25 ∧ St ok (bz w0) w [vl (tSlice t_network_Packet) x1.Packets (.slice a18 (x1.Packets).length c19), vl t_network_Network x1 (.agg cs3.toArray)] [own (tInt .i64) 3 (.slice a22 n24 c23) x21, blk g6 27 cs3]) ⟨none, 0, 0, rfl, rfl, rfl, rfl, rfl, (hs.mask [true, true]).pick [0, 1]⟩ ?_
  intro s ρ w os26 hI hf hbbs26
  obtain ⟨x21, x25⟩ := s
  obtain ⟨a22, c23, n24, h20_1, h20_3, h20_7, h20_8, h20_9, hs⟩ := hI
  unfold network_Deliverable.l1 at hf
  refine W.seqK fun K27 hK27 => ?_
  refine W.region ?_
  refine WL.bin (v := .bool (decide (x25 < ((x1.Packets).length : Int)))) h20_9 h20_8 (ib_lss _ _ _) ?_
  refine WL.nil ?_
  refine hK27 _ _ ?_
  refine W.seqK fun K28 hK28 => ?_
  rcases iteE hf with ⟨hc29, hf⟩ | ⟨hc29, hf⟩
  · refine W.cond_true (bool_tr rfl hc29) ?_
    refine W.skip ?_
    refine hK28 _ _ ?_
    refine W.seqK fun K30 hK30 => ?_
    have Jk36 : ∀ (x32 : List Int) (a33 : Option Addr) (c34 : Nat) (n35 : Nat) (ρ : Env) (w : World), ρ 1 = .pointer (some ⟨g6, 0, none⟩) → ρ 3 = .slice a33 n35 c34 → ρ 7 = .slice a18 (x1.Packets).length c19 → ρ 8 = .int .i64 ((x1.Packets).length : Int) → ρ 9 = .int .i64 x25 → St ok (bz w0) w [vl (tSlice t_network_Packet) x1.Packets (.slice a18 (x1.Packets).length c19), vl t_network_Network x1 (.agg cs3.toArray)] [own (tInt .i64) 3 (.slice a33 n35 c34) x32, blk g6 27 cs3] → network_Deliverable.j2 x25 x32 = some os26 → K30 ρ w := by
      intro x32 a33 c34 n35 ρ w h31_1 h31_3 h31_7 h31_8 h31_9 hs hf
      refine hK30 _ _ ?_
      unfold network_Deliverable.j2 at hf
      refine W.region ?_
      obtain ⟨x37, ex37, hf⟩ := letE hf
      refine WL.bin (v := .int .i64 x37) h31_9 rfl (ib_as ex37 (ib_add _ _ _)) ?_
      refine WL.move (v := .int .i64 x37) rfl ?_
      refine WL.nil ?_
      exact ⟨_, (Option.some.inj hf).symm, a33, c34, n35, h31_1, h31_3, h31_7, h31_8, rfl, (hs.mask [true, true]).pick [0, 1]⟩
    refine W.block ?_
    refine W.seqK fun K38 hK38 => ?_
    refine W.region ?_
    obtain ⟨x39, hxx39, hf⟩ := bindE hf
    refine WL.indexAddr hs 0 rfl UN25 TI51 h20_7 h20_9 hxx39 (fun ad40 hs => ?_)
    refine WL.loadP hs 0 rfl TI51 (.inl rfl) rfl (fun v41 hs => ?_)
    obtain ⟨cs42, hl43, rfl⟩ := hs.aggv (n := 19) 0 rfl rfl rfl
    refine WL.alloc hs ZV51 (fun g44 w hs => ?_)
    refine WL.storeAll (vs := cs42) hs 0 rfl TI51 rfl rfl rfl hl43 (hs.ones 0 rfl rfl) rfl (fun w hs => ?_)
    refine WL.nil ?_
    refine hK38 _ _ ?_
    refine W.seqK fun K45 hK45 => ?_
    refine W.region ?_
    refine WL.loadAll hs 2 rfl TI27 h20_1 hl4 ?_
    refine WL.fieldAddr (m := 1) rfl FA51_1 rfl ?_
    refine WL.fieldAddr (m := 2) rfl FA49_1 rfl ?_
    refine WL.loadF (z := x39.Message.From) (F_network_Packet_Message.comp F_api_Message_From) hs 0 rfl 0 rfl rfl TI3 (.inr rfl) rfl rfl (fun v46 hs => ?_)
    obtain rfl := hs.int 0 rfl
    refine WL.fieldAddr (m := 1) rfl FA51_1 rfl ?_
    refine WL.fieldAddr (m := 3) rfl FA49_2 rfl ?_
    refine WL.loadF (z := x39.Message.To) (F_network_Packet_Message.comp F_api_Message_To) hs 0 rfl 1 rfl rfl TI3 (.inr rfl) rfl rfl (fun v47 hs => ?_)
    obtain rfl := hs.int 0 rfl
    obtain ⟨x48, hxx48, hf⟩ := bindE hf
    refine WL.call (vs := [.agg cs3.toArray, .int .i64 x39.Message.From, .int .i64 x39.Message.To]) hs FN13 ⟨rfl, ⟨rfl, ⟨rfl, trivial⟩⟩⟩ (fun ok hA => network_Blocked.calls (x1 := x1) (x5 := x39.Message.From) (x6 := x39.Message.To) hxx48 (hA.get 5 rfl)) ?_
    rintro _ w hs
    refine WL.not rfl ?_
    refine WL.nil ?_
    refine hK45 _ _ ?_
    rcases iteE hf with ⟨hc49, hf⟩ | ⟨hc49, hf⟩
    · refine W.cond_true (bool_tr rfl hc49) ?_
      refine W.region ?_
      refine WL.move (v := .slice a22 n24 c23) h20_3 ?_
      refine WL.fieldAddr (m := 0) rfl FA51_0 rfl ?_
      refine WL.loadF (z := x39.ID) F_network_Packet_ID hs 0 rfl 2 rfl rfl TI3 (.inr rfl) rfl rfl (fun v50 hs => ?_)
      obtain rfl := hs.int 0 rfl
      refine WL.buildSlice (n := 1) (vs := [(0, .int .i64 x39.ID)]) (cs := [.int .i64 x39.ID]) hs ⟨⟨rfl, rfl⟩, trivial⟩ (bls PS36 (by decide) rfl) (fun g51 w hs => ?_)
      obtain ⟨x52, hxx52, hf⟩ := bindE hf
      obtain ⟨hbx52, hex52⟩ := appE hxx52
      refine WL.append (ys := [x39.ID]) (zs := x52) hs 2 rfl 0 rfl UN36 EI3 rfl rfl (fun ok hA => (Cells.one (T := tInt .i64) rfl)) hbx52 (by omega) hex52 (fun v53 w hs => ?_)
      obtain ⟨a54, n56, c55, rfl⟩ := hs.ownv3 2 rfl
      refine WL.assign (v := .slice a54 n56 c55) rfl ?_
      refine WL.nil ?_
      exact Jk36 x52 a54 c55 n56 _ _ h20_1 rfl h20_7 h20_8 h20_9 ((hs.mask [false, false, true, true]).pick [5, 6]) hf
    · refine W.cond_false (bool_tr rfl hc49) ?_
      refine W.skip ?_
      exact Jk36 x21 a22 c23 n24 _ _ h20_1 h20_3 h20_7 h20_8 h20_9 ((hs.mask [false, true, true]).pick [4, 5]) hf
  · refine W.cond_false (bool_tr rfl hc29) ?_
    refine W.exit ?_
    have hr := Option.some.inj hf; subst hr
    have hr := hbbs26 _ rfl; subst hr
    have hf := hfs26
    exact Jk14 x21 a22 c23 n24 _ _ h20_3 ((hs.mask [true]).pick []) hf
theorem network_Deliverable.callc {ok : Nat → Prop} {w0 : World} {x1 : network_Network} {v2 : Value} {r : List Int} (hf : network_Deliverable x1 = some r) (i0 : (vl t_network_Network x1 v2).holds ok w0) :
    Calls Try.prog 14 #[v2] w0 fun e w' => ∃ v, e = .returned v ∧ ∃ y : (Option Addr × Nat), v = .slice y.1 r.length y.2 ∧ St ok (bz w0) w' [vl (tSlice (tInt .i64)) r (.slice y.1 r.length y.2)] [] := by
  refine (network_Deliverable.calls (ok := ok) (w0 := w0) (x1 := x1) hf i0).mono ?_
  rintro e w' ⟨v, rfl, ⟨a58, n59, c60⟩, rfl, hs⟩
  obtain rfl := hs.ownLen 0 rfl
  have hs := hs.freezeOwn 0 rfl
  exact ⟨_, rfl, (a58, c60), rfl, hs.pick [0]⟩
/-! slices.BinarySearchFunc[[]elasticstore/network.Packet,elasticstore/network.Packet,int]: function 56 -/
theorem slices_BinarySearchFunc_int.calls {ok : Nat → Prop} {w0 : World} {x1 : List network_Packet} {x4 : Int} {x5 : network_Packet × Int → Option Int} {a2 : Option Addr} {c3 : Nat} {v6 : Value} {r : Int × Bool} (hf : slices_BinarySearchFunc_int x1 x4 x5 = some r) (i0 : (vl (tSlice t_network_Packet) x1 (.slice a2 x1.length c3)).holds ok w0) (i1 : (vl (tFun Try.prog (argK2 t_network_Packet (tInt .i64)) (fun r : Int => .int .i64 r)) x5 v6).holds ok w0) :
    Calls Try.prog 56 #[.slice a2 x1.length c3, .int .i64 x4, v6] w0 fun e w' => ∃ v, e = .returned v ∧ ∃ y : Unit, v = .tuple #[.int .i64 r.1, .bool r.2] ∧ St ok (bz w0) w' [] [] := by
  unfold slices_BinarySearchFunc_int at hf
  refine calls_of_W (fn := Try.f56) (N := 49) Try.func56 rfl Try.ntmps56 rfl ?_
  have hs : St ok (bz w0) w0 [vl (tSlice t_network_Packet) x1 (.slice a2 x1.length c3), vl (tFun Try.prog (argK2 t_network_Packet (tInt .i64)) (fun r : Int => .int .i64 r)) x5 v6] [] := St.init (All.cons i0 (All.cons i1 All.nil))
  clear i0 i1
  refine W.seqK fun K7 hK7 => ?_
  refine W.region ?_
  refine WL.assign (v := .int .i64 0) rfl ?_
  refine WL.assign (v := .bool false) rfl ?_
  refine WL.nil ?_
  refine hK7 _ _ ?_
  refine W.seqK fun K8 hK8 => ?_
  refine W.region ?_
  refine WL.move (v := .slice a2 x1.length c3) rfl ?_
  refine WL.len (v := .slice a2 x1.length c3) rfl (len_slice UN25) ?_
  refine WL.assign (v := .int .i64 (x1.length : Int)) rfl ?_
  refine WL.nil ?_
  refine hK8 _ _ ?_
  refine W.seqK fun K9 hK9 => ?_
  refine W.region ?_
  refine WL.move (v := .int .i64 (x1.length : Int)) rfl ?_
  refine WL.assign (v := .int .i64 0) rfl ?_
  refine WL.assign (v := .int .i64 (x1.length : Int)) rfl ?_
  refine WL.nil ?_
  refine hK9 _ _ ?_
  refine W.seqK fun K10 hK10 => ?_
  have Jk13 : ∀ (x12 : Int) (ρ : Env) (w : World), ρ 0 = .slice a2 x1.length c3 → ρ 1 = .int .i64 x4 → ρ 2 = v6 → ρ 8 = .int .i64 (x1.length : Int) → ρ 9 = .int .i64 x12 → St ok (bz w0) w [vl (tSlice t_network_Packet) x1 (.slice a2 x1.length c3), vl (tFun Try.prog (argK2 t_network_Packet (tInt .i64)) (fun r : Int => .int .i64 r)) x5 v6] [] → slices_BinarySearchFunc_int.j2 x1 x4 x5 x12 = some r → K10 ρ w := by
    intro x12 ρ w h11_0 h11_1 h11_2 h11_8 h11_9 hs hf
    refine hK10 _ _ ?_
    unfold slices_BinarySearchFunc_int.j2 at hf
    refine W.seqK fun K14 hK14 => ?_
    have Jk18 : ∀ (x16 : Int) (x17 : Bool) (ρ : Env) (w : World), ρ 6 = .int .i64 x16 → ρ 7 = .bool x17 → St ok (bz w0) w [] [] → slices_BinarySearchFunc_int.j1 x16 x17 = some r → K14 ρ w := by
      intro x16 x17 ρ w h15_6 h15_7 hs hf
      refine hK14 _ _ ?_
      unfold slices_BinarySearchFunc_int.j1 at hf
      refine W.ret ?_
      have hr := Option.some.inj hf; subst hr
      exact ⟨_, resOk_two rfl h15_6 h15_7, (), rfl, (hs.mask []).pick []⟩
    refine W.region ?_
    refine WL.move (v := .int .i64 x12) h11_9 ?_
    refine WL.move (v := .int .i64 x12) h11_9 ?_
    refine WL.move (v := .int .i64 (x1.length : Int)) h11_8 ?_
    refine WL.bin (v := .bool (decide (x12 < (x1.length : Int)))) rfl rfl (ib_lss _ _ _) ?_
    refine WL.move (v := .bool (decide (x12 < (x1.length : Int)))) rfl ?_
    rcases iteE hf with ⟨hc19, hf⟩ | ⟨hc19, hf⟩
    · refine WL.move (v := v6) h11_2 ?_ (hg := (wanted_of rfl rfl (bool_tr rfl hc19)).trans rfl)
      refine WL.move (v := .slice a2 x1.length c3) h11_0 ?_ (hg := (wanted_of rfl rfl (bool_tr rfl hc19)).trans rfl)
      refine WL.move (v := .int .i64 x12) h11_9 ?_ (hg := (wanted_of rfl rfl (bool_tr rfl hc19)).trans rfl)
      obtain ⟨x20, hxx20, hf⟩ := bindE hf
      refine WL.indexAddr hs 0 rfl UN25 TI51 rfl rfl hxx20 (fun ad21 hs => ?_) (hg := (wanted_of rfl rfl (bool_tr rfl hc19)).trans rfl)
      refine WL.loadP hs 0 rfl TI51 (.inl rfl) rfl (fun v22 hs => ?_) (hg := (wanted_of rfl rfl (bool_tr rfl hc19)).trans rfl)
      obtain ⟨cs23, hl24, rfl⟩ := hs.aggv (n := 19) 0 rfl rfl rfl
      refine WL.move (v := .int .i64 x4) h11_1 ?_ (hg := (wanted_of rfl rfl (bool_tr rfl hc19)).trans rfl)
      obtain ⟨x25, hxx25, hf⟩ := bindE hf
      refine WL.callF (x := (x20, x4)) (vs := [.agg cs23.toArray, .int .i64 x4]) hs 3 rfl rfl ⟨rfl, ⟨rfl, trivial⟩⟩ (fun ok hA => ⟨_, _, rfl, hA.get 0 rfl, tInt_V.2 rfl⟩) hxx25 (fun w hs => ?_) (hg := (wanted_of rfl rfl (bool_tr rfl hc19)).trans rfl)
      refine WL.bin (v := .bool (x25 == 0)) rfl rfl (ib_eql _ _ _) ?_ (hg := (wanted_of rfl rfl (bool_tr rfl hc19)).trans rfl)
      refine WL.pickT (v := .bool (x25 == 0)) (bool_tr rfl hc19) rfl ?_
      refine WL.assign (v := .int .i64 x12) rfl ?_
      refine WL.assign (v := .bool (x25 == 0)) rfl ?_
      refine WL.nil ?_
      exact Jk18 x12 (x25 == 0) _ _ rfl rfl ((hs.mask []).pick []) hf
    · refine WL.pass ((wanted_of rfl rfl (bool_tr rfl hc19)).trans rfl) rfl ?_
      refine WL.pass ((wanted_of rfl rfl (bool_tr rfl hc19)).trans rfl) rfl ?_
      refine WL.pass ((wanted_of rfl rfl (bool_tr rfl hc19)).trans rfl) rfl ?_
      refine WL.pass ((wanted_of rfl rfl (bool_tr rfl hc19)).trans rfl) rfl ?_
      refine WL.pass ((wanted_of rfl rfl (bool_tr rfl hc19)).trans rfl) rfl ?_
      refine WL.pass ((wanted_of rfl rfl (bool_tr rfl hc19)).trans rfl) rfl ?_
      refine WL.pass ((wanted_of rfl rfl (bool_tr rfl hc19)).trans rfl) rfl ?_
      refine WL.pass ((wanted_of rfl rfl (bool_tr rfl hc19)).trans rfl) rfl ?_
      refine WL.pickF (v := .bool false) (bool_tr rfl hc19) rfl ?_
      refine WL.assign (v := .int .i64 x12) rfl ?_
      refine WL.assign (v := .bool false) rfl ?_
      refine WL.nil ?_
      exact Jk18 x12 false _ _ rfl rfl ((hs.mask []).pick []) hf
  refine W.block ?_
  obtain ⟨bs29, hbs29, hfs29⟩ := bindE hf
  refine W.loop hbs29 (fun s ρ w => match s with | (x27, x28) => ρ 0 = .slice a2 x1.length c3 ∧ ρ 1 = .int .i64 x4 ∧ ρ 2 = v6 ∧ ρ 8 = .int .i64 (x1.length : Int) ∧ ρ 9 = .int .i64 x27 ∧ ρ 10 = .int .i64 x28 ∧ St ok (bz w0) w [vl (tSlice t_network_Packet) x1 (.slice a2 x1.length c3), vl (tFun Try.prog (argK2 t_network_Packet (tInt .i64)) (fun r : Int => .int .i64 r)) x5 v6] []) ⟨rfl, rfl, rfl, rfl, rfl, rfl, (hs.mask []).pick [0, 1]⟩ ?_
  intro s ρ w os29 hI hf hbbs29
  obtain ⟨x27, x28⟩ := s
  obtain ⟨h26_0, h26_1, h26_2, h26_8, h26_9, h26_10, hs⟩ := hI
  unfold slices_BinarySearchFunc_int.l1 at hf
  refine W.seqK fun K30 hK30 => ?_
  refine W.seqK fun K31 hK31 => ?_
  refine W.region ?_
  refine WL.move (v := .int .i64 x27) h26_9 ?_
  refine WL.move (v := .int .i64 x28) h26_10 ?_
  refine WL.bin (v := .bool (decide (x27 < x28))) rfl rfl (ib_lss _ _ _) ?_
  refine WL.nil ?_
  refine hK31 _ _ ?_
  rcases iteE hf with ⟨hc32, hf⟩ | ⟨hc32, hf⟩
  · refine W.cond_true (bool_tr rfl hc32) ?_
    refine W.skip ?_
    refine hK30 _ _ ?_
    refine W.block ?_
    refine W.seqK fun K33 hK33 => ?_
    refine W.region ?_
    refine WL.move (v := .int .i64 x27) h26_9 ?_
    refine WL.move (v := .int .i64 x28) h26_10 ?_
    obtain ⟨x34, ex34, hf⟩ := letE hf
    refine WL.bin (v := .int .i64 x34) rfl rfl (ib_as ex34 (ib_add _ _ _)) ?_
    refine WL.convI UN3 UN89 rfl ?_
    obtain ⟨x36, ex36, hf⟩ := letE hf
    refine WL.shr_ (e := x36) rfl rfl (by decide) ex36 ?_
    refine WL.convI UN89 UN3 rfl ?_
    refine WL.assign (v := .int .i64 (IntKind.i64.wrap x36)) rfl ?_
    refine WL.nil ?_
    refine hK33 _ _ ?_
    refine W.seqK fun K37 hK37 => ?_
    refine W.region ?_
    refine WL.move (v := v6) h26_2 ?_
    refine WL.move (v := .slice a2 x1.length c3) h26_0 ?_
    refine WL.move (v := .int .i64 (IntKind.i64.wrap x36)) rfl ?_
    obtain ⟨x38, hxx38, hf⟩ := bindE hf
    refine WL.indexAddr hs 0 rfl UN25 TI51 rfl rfl hxx38 (fun ad39 hs => ?_)
    refine WL.loadP hs 0 rfl TI51 (.inl rfl) rfl (fun v40 hs => ?_)
    obtain ⟨cs41, hl42, rfl⟩ := hs.aggv (n := 19) 0 rfl rfl rfl
    refine WL.move (v := .int .i64 x4) h26_1 ?_
    obtain ⟨x43, hxx43, hf⟩ := bindE hf
    refine WL.callF (x := (x38, x4)) (vs := [.agg cs41.toArray, .int .i64 x4]) hs 3 rfl rfl ⟨rfl, ⟨rfl, trivial⟩⟩ (fun ok hA => ⟨_, _, rfl, hA.get 0 rfl, tInt_V.2 rfl⟩) hxx43 (fun w hs => ?_)
    refine WL.bin (v := .bool (decide (x43 < 0))) rfl rfl (ib_lss _ _ _) ?_
    refine WL.nil ?_
    refine hK37 _ _ ?_
    rcases iteE hf with ⟨hc44, hf⟩ | ⟨hc44, hf⟩
    · refine W.cond_true (bool_tr rfl hc44) ?_
      refine W.region ?_
      refine WL.move (v := .int .i64 (IntKind.i64.wrap x36)) rfl ?_
      obtain ⟨x45, ex45, hf⟩ := letE hf
      refine WL.bin (v := .int .i64 x45) rfl rfl (ib_as ex45 (ib_add _ _ _)) ?_
      refine WL.assign (v := .int .i64 x45) rfl ?_
      refine WL.nil ?_
      exact ⟨_, (Option.some.inj hf).symm, h26_0, h26_1, h26_2, h26_8, rfl, h26_10, (hs.mask []).pick [2, 3]⟩
    · refine W.cond_false (bool_tr rfl hc44) ?_
      refine W.region ?_
      refine WL.move (v := .int .i64 (IntKind.i64.wrap x36)) rfl ?_
      refine WL.assign (v := .int .i64 (IntKind.i64.wrap x36)) rfl ?_
      refine WL.nil ?_
      exact ⟨_, (Option.some.inj hf).symm, h26_0, h26_1, h26_2, h26_8, h26_9, rfl, (hs.mask []).pick [2, 3]⟩
  · refine W.cond_false (bool_tr rfl hc32) ?_
    refine W.exit ?_
    have hr := Option.some.inj hf; subst hr
    have hr := hbbs29 _ rfl; subst hr
    have hf := hfs29
    exact Jk13 x27 _ _ h26_0 h26_1 h26_2 h26_8 h26_9 ((hs.mask []).pick [0, 1]) hf
/-! elasticstore/network.position$1: function 57 -/
theorem network_position_1.calls {ok : Nat → Prop} {w0 : World} {x1 : network_Packet} {x5 : Int} {v2 : Value} {r : Int} (hf : network_position_1 x1 x5 = some r) (i0 : (vl t_network_Packet x1 v2).holds ok w0) :
    Calls Try.prog 57 #[v2, .int .i64 x5] w0 fun e w' => ∃ v, e = .returned v ∧ ∃ y : Unit, v = .int .i64 r ∧ St ok (bz w0) w' [] [] := by
  unfold network_position_1 at hf
  refine calls_of_W (fn := Try.f57) (N := 9) Try.func57 rfl Try.ntmps57 rfl ?_
  have hs : St ok (bz w0) w0 [vl t_network_Packet x1 v2] [] := St.init (All.cons i0 All.nil)
  clear i0
  obtain ⟨cs3, hl4, rfl⟩ := hs.aggv (n := 19) 0 rfl rfl rfl
  refine W.seqK fun K6 hK6 => ?_
  refine W.region ?_
  refine WL.box (vs := cs3) hs rfl rfl (fun g7 w hs => ?_)
  refine WL.assign (v := .int .i64 0) rfl ?_
  refine WL.nil ?_
  refine hK6 _ _ ?_
  refine W.seqK fun K8 hK8 => ?_
  refine W.region ?_
  refine WL.fieldAddr (m := 0) rfl FA51_0 rfl ?_
  refine WL.loadF (z := x1.ID) F_network_Packet_ID hs 0 rfl 0 rfl rfl TI3 (.inr rfl) rfl rfl (fun v9 hs => ?_)
  obtain rfl := hs.int 0 rfl
  refine WL.move (v := .int .i64 x5) rfl ?_
  obtain ⟨x10, hxx10, hf⟩ := bindE hf
  refine WL.call (vs := [.int .i64 x1.ID, .int .i64 x5]) hs FN30 ⟨rfl, ⟨rfl, trivial⟩⟩ (fun ok hA => cmp_Compare_int.calls (x1 := x1.ID) (x2 := x5) hxx10) ?_
  rintro _ w hs
  refine WL.assign (v := .int .i64 x10) rfl ?_
  refine WL.nil ?_
  refine hK8 _ _ ?_
  refine W.ret ?_
  have hr := Option.some.inj hf; subst hr
  exact ⟨_, resOk_one rfl rfl, (), rfl, (hs.mask []).pick []⟩
/-! elasticstore/network.position: function 40 -/
theorem network_position.calls {ok : Nat → Prop} {w0 : World} {x1 : network_Network} {x5 : Int} {v2 : Value} {r : Int × Bool} (hf : network_position x1 x5 = some r) (i0 : (vl t_network_Network x1 v2).holds ok w0) :
    Calls Try.prog 40 #[v2, .int .i64 x5] w0 fun e w' => ∃ v, e = .returned v ∧ ∃ y : Unit, v = .tuple #[.int .i64 r.1, .bool r.2] ∧ St ok (bz w0) w' [] [] := by
  unfold network_position at hf
  refine calls_of_W (fn := Try.f40) (N := 12) Try.func40 rfl Try.ntmps40 rfl ?_
  have hs : St ok (bz w0) w0 [vl t_network_Network x1 v2] [] := St.init (All.cons i0 All.nil)
  clear i0
  obtain ⟨cs3, hl4, rfl⟩ := hs.aggv (n := 3) 0 rfl rfl rfl
  refine W.seqK fun K6 hK6 => ?_
  refine W.region ?_
  refine WL.box (vs := cs3) hs rfl rfl (fun g7 w hs => ?_)
  refine WL.assign (v := .int .i64 0) rfl ?_
  refine WL.assign (v := .bool false) rfl ?_
  refine WL.nil ?_
  refine hK6 _ _ ?_
  refine W.seqK fun K8 hK8 => ?_
  refine W.region ?_
  refine WL.fieldAddr (m := 1) rfl FA27_1 rfl ?_
  refine WL.loadF (z := x1.Packets) F_network_Network_Packets hs 0 rfl 0 rfl rfl TI25 (.inr rfl) rfl rfl (fun v9 hs => ?_)
  obtain ⟨a10, c11, rfl⟩ := hs.slice 0 rfl
  refine WL.move (v := .int .i64 x5) rfl ?_
  have hs := hs.add (it := vl (tFun Try.prog (argK2 t_network_Packet (tInt .i64)) (fun r : Int => .int .i64 r)) (fun p : network_Packet × Int => network_position_1 p.1 p.2) (.func (.func 57) #[] #[])) fun ok hA => tFun_V.2 ⟨57, _, rfl, FN57, fun ok' w' hm p r vs hF har => by
    obtain ⟨u1, u2, rfl, h1, h2⟩ := har
    obtain rfl := tInt_V.1 h2
    exact (network_position_1.calls (x1 := p.1) (x5 := p.2) hF h1).mono (by rintro e w2 ⟨v, h1, y, h2, h3⟩; exact ⟨v, h1, h2, h3⟩)⟩
  obtain ⟨⟨x12, x13⟩, hxx12, hf⟩ := bindE hf
  refine WL.call (vs := [.slice a10 (x1.Packets).length c11, .int .i64 x5, (.func (.func 57) #[] #[])]) hs FN56 ⟨rfl, ⟨rfl, ⟨rfl, trivial⟩⟩⟩ (fun ok hA => slices_BinarySearchFunc_int.calls (x1 := x1.Packets) (x4 := x5) (x5 := (fun p : network_Packet × Int => network_position_1 p.1 p.2)) hxx12 (hA.get 1 rfl) (hA.get 0 rfl)) ?_
  rintro _ w hs
  refine WL.extract (v := .int .i64 x12) rfl rfl ?_
  refine WL.extract (v := .bool x13) rfl rfl ?_
  refine WL.assign (v := .int .i64 x12) rfl ?_
  refine WL.assign (v := .bool x13) rfl ?_
  refine WL.nil ?_
  refine hK8 _ _ ?_
  refine W.ret ?_
  have hr := Option.some.inj hf; subst hr
  exact ⟨_, resOk_two rfl rfl rfl, (), rfl, (hs.mask []).pick []⟩
/-! elasticstore/network.remove: function 47 -/
theorem network_remove.calls {ok : Nat → Prop} {w0 : World} {x1 : network_Network} {x5 : Int} {v2 : Value} {r : network_Network} (hf : network_remove x1 x5 = some r) (i0 : (vl t_network_Network x1 v2).holds ok w0) :
    Calls Try.prog 47 #[v2, .int .i64 x5] w0 fun e w' => ∃ v, e = .returned v ∧ ∃ y : List Value, v = .agg y.toArray ∧ St ok (bz w0) w' [vl t_network_Network r (.agg y.toArray)] [] := by
  unfold network_remove at hf
  refine calls_of_W (fn := Try.f47) (N := 20) Try.func47 rfl Try.ntmps47 rfl ?_
  have hs : St ok (bz w0) w0 [vl t_network_Network x1 v2] [] := St.init (All.cons i0 All.nil)
  clear i0
  obtain ⟨cs3, hl4, rfl⟩ := hs.aggv (n := 3) 0 rfl rfl rfl
  refine W.seqK fun K6 hK6 => ?_
  refine W.region ?_
  obtain ⟨a8, c9, a10, c11, rfl⟩ := open_network_Network hs 0 rfl
  have hs := hs.add (it := vl (tSlice t_network_Packet) x1.Packets (.slice a8 (x1.Packets).length c9)) fun ok hA => V_fld F_network_Network_Packets (hA.get 0 rfl) rfl rfl rfl
  have hs := hs.add (it := vl (tSlice t_network_Side) x1.Sides (.slice a10 (x1.Sides).length c11)) fun ok hA => V_fld F_network_Network_Sides (hA.get 1 rfl) rfl rfl rfl
  refine WL.box (vs := [.int .i64 x1.Next, .slice a8 (x1.Packets).length c9, .slice a10 (x1.Sides).length c11]) hs rfl rfl (fun g7 w hs => ?_)
  refine WL.alloc hs ZV27 (fun g12 w hs => ?_)
  refine WL.nil ?_
  refine hK6 _ _ ?_
  refine W.seqK fun K13 hK13 => ?_
  refine W.region ?_
  refine WL.loadN (vs := [.int .i64 x1.Next, .slice a8 (x1.Packets).length c9, .slice a10 (x1.Sides).length c11]) hs 1 rfl TI27 rfl rfl rfl ?_
  have hs := hs.add (it := vl t_network_Network (⟨x1.Next, x1.Packets, x1.Sides⟩ : network_Network) (.agg [.int .i64 x1.Next, .slice a8 (x1.Packets).length c9, .slice a10 (x1.Sides).length c11].toArray)) fun ok hA => V_agg (show t_network_Network.R ok _ _ _ from ⟨[.int .i64 x1.Next], [.slice a8 (x1.Packets).length c9, .slice a10 (x1.Sides).length c11], rfl, rfl, ⟨[.slice a8 (x1.Packets).length c9], [.slice a10 (x1.Sides).length c11], rfl, (R_one (hA.get 1 rfl)), (R_one (hA.get 0 rfl))⟩⟩) rfl
  obtain ⟨x14, hxx14, hf⟩ := bindE hf
  refine WL.call (vs := [.agg ([.int .i64 x1.Next, .slice a8 (x1.Packets).length c9, .slice a10 (x1.Sides).length c11] : List Value).toArray]) hs FN27 ⟨rfl, trivial⟩ (fun ok hA => network_clone.calls (x1 := (⟨x1.Next, x1.Packets, x1.Sides⟩ : network_Network)) hxx14 (hA.get 0 rfl)) ?_
  rintro ⟨⟨a15, n16, c17⟩, ⟨a18, n19, c20⟩⟩ w hs
  refine WL.storeAll (vs := [.int .i64 x14.Next, .slice a15 n16 c17, .slice a18 n19 c20]) hs 3 rfl TI27 rfl rfl rfl rfl (ones_of rfl) rfl (fun w hs => ?_)
  refine WL.nil ?_
  refine hK13 _ _ ?_
  refine W.seqK fun K21 hK21 => ?_
  obtain rfl := hs.ownLen 0 rfl
  have hs := hs.freezeOwn 0 rfl
  obtain rfl := hs.ownLen 0 rfl
  have hs := hs.freezeOwn 0 rfl
  obtain ⟨x22, hxx22, hf⟩ := bindE hf
  obtain ⟨x24, ex24, hf⟩ := letE hf
  obtain ⟨x25, hxx25, hf⟩ := bindE hf
  refine W.any (by kernel_rfl) 10 3 [true, true, true, true, true, true, true, true, true, true, false, false, false] rfl rfl (poAt [pv (.pointer (some ⟨g7, 1, none⟩)), pv (.slice a15 (x14.Packets).length c17), pv (.int .i64 x5), pv (.int .i64 x5), pq (fun y : Option Addr => .slice y x22.length x22.length) (fun v => [vl (tSlice t_network_Packet) x22 v]) (fun v => []), pv (.pointer (some ⟨g7, 1, none⟩)), pv (.slice a15 (x14.Packets).length c17), pv (.int .i64 x5), pv (.int .i64 x24), pq (fun y : (Option Addr × Nat) => .slice y.1 x25.length y.2) (fun v => [vl (tSlice t_network_Packet) x25 v]) (fun v => [])]) (Λ := [blk g12 27 [.int .i64 0, .slice none 0 0, .slice none 0 0], blk g7 27 [.int .i64 x14.Next, .slice a15 (x14.Packets).length c17, .slice a18 (x14.Sides).length c20]]) hs (by kernel_rfl) (by kernel_rfl) (by kernel_rfl) ⟨⟨⟨⟨⟨⟨⟨⟨⟨⟨trivial, ?_⟩, ?_⟩, ?_⟩, ?_⟩, ?_⟩, ?_⟩, ?_⟩, ?_⟩, ?_⟩, ?_⟩ ?_
  · intro ρ w Γx Λx hs hu hp
    refine WL.fieldAddr (m := 1) (hu 2 rfl) FA27_1 rfl ?_
    exact WL.nil ⟨rfl, _, rfl, rfl, hs.cutG 0 0⟩
  · intro ρ w Γx Λx hs hu hp
    have e28 : ρ 7 = .pointer (some ⟨g7, 1, none⟩) := (hp 0 rfl).1
    refine WL.load1 (v := .slice a15 (x14.Packets).length c17) hs (Λx.length + 1) (getApp rfl) TI25 e28 rfl ?_
    exact WL.nil ⟨rfl, _, rfl, rfl, hs.cutG 0 0⟩
  · intro ρ w Γx Λx hs hu hp
    refine WL.move (v := .int .i64 x5) (hu 1 rfl) ?_
    exact WL.nil ⟨rfl, _, rfl, rfl, hs.cutG 0 0⟩
  · intro ρ w Γx Λx hs hu hp
    refine WL.move (v := .int .i64 x5) (hu 1 rfl) ?_
    exact WL.nil ⟨rfl, _, rfl, rfl, hs.cutG 0 0⟩
  · intro ρ w Γx Λx hs hu hp
    have e29 : ρ 8 = .slice a15 (x14.Packets).length c17 := (hp 1 rfl).1
    have e30 : ρ 9 = .int .i64 x5 := (hp 2 rfl).1
    have e31 : ρ 10 = .int .i64 x5 := (hp 3 rfl).1
    refine WL.slice_hm hs (Γx.length + 1) (getApp rfl) UN25 TI51 e29 e30 e31 rfl hxx22 (fun a23 hs => ?_)
    have hs := hs.add (it := vl (tSlice t_network_Packet) x22 (.slice a23 x22.length x22.length)) fun ok hA => hA.get 0 rfl
    exact WL.nil ⟨rfl, _, rfl, ⟨a23, rfl⟩, hs.cutG 1 1⟩
  · intro ρ w Γx Λx hs hu hp
    refine WL.fieldAddr (m := 1) (hu 2 rfl) FA27_1 rfl ?_
    exact WL.nil ⟨rfl, _, rfl, rfl, hs.cutG 0 0⟩
  · intro ρ w Γx Λx hs hu hp
    have e32 : ρ 12 = .pointer (some ⟨g7, 1, none⟩) := (hp 5 rfl).1
    refine WL.load1 (v := .slice a15 (x14.Packets).length c17) hs (Λx.length + 1) (getApp rfl) TI25 e32 rfl ?_
    exact WL.nil ⟨rfl, _, rfl, rfl, hs.cutG 0 0⟩
  · intro ρ w Γx Λx hs hu hp
    refine WL.move (v := .int .i64 x5) (hu 1 rfl) ?_
    exact WL.nil ⟨rfl, _, rfl, rfl, hs.cutG 0 0⟩
  · intro ρ w Γx Λx hs hu hp
    have e33 : ρ 14 = .int .i64 x5 := (hp 7 rfl).1
    refine WL.bin (v := .int .i64 x24) e33 rfl (ib_as ex24 (ib_add _ _ _)) ?_
    exact WL.nil ⟨rfl, _, rfl, rfl, hs.cutG 0 0⟩
  · intro ρ w Γx Λx hs hu hp
    have e34 : ρ 13 = .slice a15 (x14.Packets).length c17 := (hp 6 rfl).1
    have e35 : ρ 15 = .int .i64 x24 := (hp 8 rfl).1
    refine WL.slice_l hs (Γx.length + 1) (getApp rfl) UN25 TI51 e34 e35 hxx25 (fun a26 c27 hs => ?_)
    have hs := hs.add (it := vl (tSlice t_network_Packet) x25 (.slice a26 x25.length c27)) fun ok hA => hA.get 0 rfl
    exact WL.nil ⟨rfl, _, rfl, ⟨(a26, c27), rfl⟩, hs.cutG 1 1⟩
  · intro ρ w hs hu36 hp
    obtain ⟨⟨⟨⟨⟨⟨⟨⟨⟨⟨_, hp0_⟩, hp1_⟩, hp2_⟩, hp3_⟩, hp4_⟩, hp5_⟩, hp6_⟩, hp7_⟩, hp8_⟩, hp9_⟩ := hp
    have hs : St ok (bz w0) w [vl (tSlice t_network_Packet) x25 (ρ 16), vl (tSlice t_network_Packet) x22 (ρ 11), vl (tSlice t_network_Side) x14.Sides (.slice a18 (x14.Sides).length c20), vl (tSlice t_network_Packet) x14.Packets (.slice a15 (x14.Packets).length c17), vl t_network_Network (⟨x1.Next, x1.Packets, x1.Sides⟩ : network_Network) (.agg [.int .i64 x1.Next, .slice a8 (x1.Packets).length c9, .slice a10 (x1.Sides).length c11].toArray), vl (tSlice t_network_Side) x1.Sides (.slice a10 (x1.Sides).length c11), vl (tSlice t_network_Packet) x1.Packets (.slice a8 (x1.Packets).length c9), vl t_network_Network x1 (.agg [.int .i64 x1.Next, .slice a8 (x1.Packets).length c9, .slice a10 (x1.Sides).length c11].toArray)] [blk g12 27 [.int .i64 0, .slice none 0 0, .slice none 0 0], blk g7 27 [.int .i64 x14.Next, .slice a15 (x14.Packets).length c17, .slice a18 (x14.Sides).length c20]] := hs
    obtain ⟨⟨a37, c38⟩, e39⟩ := hp9_
    have e39 : ρ 16 = .slice a37 x25.length c38 := e39
    try rw [e39] at hs
    have e40 : ρ 15 = .int .i64 x24 := hp8_
    have e41 : ρ 14 = .int .i64 x5 := hp7_
    have e42 : ρ 13 = .slice a15 (x14.Packets).length c17 := hp6_
    have e43 : ρ 12 = .pointer (some ⟨g7, 1, none⟩) := hp5_
    obtain ⟨a44, e45⟩ := hp4_
    have e45 : ρ 11 = .slice a44 x22.length x22.length := e45
    try rw [e45] at hs
    have e46 : ρ 10 = .int .i64 x5 := hp3_
    have e47 : ρ 9 = .int .i64 x5 := hp2_
    have e48 : ρ 8 = .slice a15 (x14.Packets).length c17 := hp1_
    have e49 : ρ 7 = .pointer (some ⟨g7, 1, none⟩) := hp0_
    refine WA.step [10] (by kernel_rfl) (by simp) ⟨?_, trivial⟩
    obtain ⟨x50, hxx50, hf⟩ := bindE hf
    obtain ⟨hbx50, hex50⟩ := appE hxx50
    refine WL.appendFS (zs := x50) hs 1 rfl 0 rfl UN25 UN25 EI51 e45 e39 hbx50 (by omega) hex50 (fun a51 c52 w hs => ?_)
    refine WL.nil ⟨rfl, _, rfl, ?_⟩
    refine WA.step [11] (by kernel_rfl) (by simp) ⟨?_, trivial⟩
    refine WL.fieldAddr (m := 1) (hu36 2 rfl) FA27_1 rfl ?_
    refine WL.nil ⟨rfl, _, rfl, ?_⟩
    refine WA.step [12] (by kernel_rfl) (by simp) ⟨?_, trivial⟩
    refine WL.store (vs := [.slice a51 x50.length c52]) (cs' := [.int .i64 x14.Next, .slice a51 x50.length c52, .slice a18 (x14.Sides).length c20]) hs 1 rfl TI25 rfl rfl rfl rfl (ones_of rfl) (Nat.le_of_ble_eq_true rfl) rfl (fun w hs => ?_)
    refine WL.nil ⟨rfl, _, rfl, ?_⟩
    refine WA.done (by kernel_rfl) ?_
    refine hK21 _ _ ?_
    refine W.seqK fun K53 hK53 => ?_
    refine W.region ?_
    refine WL.loadN (vs := [.int .i64 x14.Next, .slice a51 x50.length c52, .slice a18 (x14.Sides).length c20]) hs 1 rfl TI27 (hu36 2 rfl) rfl rfl ?_
    refine WL.storeAll (vs := [.int .i64 x14.Next, .slice a51 x50.length c52, .slice a18 (x14.Sides).length c20]) hs 0 rfl TI27 (hu36 4 rfl) rfl rfl rfl (ones_of rfl) rfl (fun w hs => ?_)
    refine WL.nil ?_
    refine hK53 _ _ ?_
    refine W.ret ?_
    have hr := Option.some.inj hf; subst hr
    have hs := hs.add (it := vl t_network_Network (⟨x14.Next, x50, x14.Sides⟩ : network_Network) (.agg [.int .i64 x14.Next, .slice a51 x50.length c52, .slice a18 (x14.Sides).length c20].toArray)) fun ok hA => V_agg (show t_network_Network.R ok _ _ _ from ⟨[.int .i64 x14.Next], [.slice a51 x50.length c52, .slice a18 (x14.Sides).length c20], rfl, rfl, ⟨[.slice a51 x50.length c52], [.slice a18 (x14.Sides).length c20], rfl, (R_one (hA.get 0 rfl)), (R_one (hA.get 3 rfl))⟩⟩) rfl
    exact ⟨_, resOk_one rfl (res_all hs 0 rfl TI27 (hu36 4 rfl) rfl), [.int .i64 x14.Next, .slice a51 x50.length c52, .slice a18 (x14.Sides).length c20], rfl, (hs.mask []).pick [0]⟩
end Go.Proofs.Ytahobbichanccaa
