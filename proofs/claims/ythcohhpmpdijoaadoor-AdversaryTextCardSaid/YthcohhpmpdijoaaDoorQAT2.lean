/- What the row leans on, as few texts. -/
import Derived.Test.YthcohhpmpdijoaaDoorQAT1
import Derived.Test.YthcohhpmpdijoaaDoorQAT0
set_option linter.unusedVariables false
set_option linter.unusedSimpArgs false
namespace Go.Proofs.YthcohhpmpdijoaaDoor
open Go Go.RowKit Go.Proofs.YthcohhpmpdijoaaDoorL
set_option maxRecDepth 100000
set_option maxHeartbeats 4000000
theorem network_Find.calls {ok : Nat → Prop} {w0 : World} {x1 : network_Network} {x5 : Int} {v2 : Value} {r : api_Message × Bool} (hf : network_Find x1 x5 = some r) (i0 : (vl t_network_Network x1 v2).holds ok w0) :
    Calls Tryd.prog 27 #[v2, .int .i64 x5] w0 fun e w' => ∃ v, e = .returned v ∧ ∃ y : List Value, v = .tuple #[.agg y.toArray, .bool r.2] ∧ St ok (bz w0) w' [vl t_api_Message r.1 (.agg y.toArray)] [] := by
  unfold network_Find at hf
  refine calls_of_W (fn := Tryd.f27) (N := 23) Tryd.func27 rfl Tryd.ntmps27 rfl ?_
  have hs : St ok (bz w0) w0 [vl t_network_Network x1 v2] [] := St.init (All.cons i0 All.nil)
  clear i0
  obtain ⟨cs3, hl4, rfl⟩ := hs.aggv (n := 3) 0 rfl rfl rfl
  refine W.seqK fun K6 hK6 => ?_
  refine W.region ?_
  refine WL.box (vs := cs3) hs rfl rfl (fun g7 w hs => ?_)
  refine WL.alloc hs ZV53 (fun g8 w hs => ?_)
  refine WL.assign (v := .bool false) rfl ?_
  refine WL.nil ?_
  refine hK6 _ _ ?_
  refine W.seqK fun K9 hK9 => ?_
  refine W.region ?_
  refine WL.loadAll hs 1 rfl TI39 rfl hl4 ?_
  refine WL.move (v := .int .i64 x5) rfl ?_
  obtain ⟨⟨x10, x11⟩, hxx10, hf⟩ := bindE hf
  refine WL.call (vs := [.agg cs3.toArray, .int .i64 x5]) hs FN41 ⟨rfl, ⟨rfl, trivial⟩⟩ (fun ok hA => network_position.calls (x1 := x1) (x5 := x5) hxx10 (hA.get 0 rfl)) ?_
  rintro _ w hs
  refine WL.move (v := .tuple #[.int .i64 x10, .bool x11]) rfl ?_
  refine WL.extract (v := .int .i64 x10) rfl rfl ?_
  refine WL.extract (v := .bool x11) rfl rfl ?_
  refine WL.assign (v := .int .i64 x10) rfl ?_
  refine WL.assign (v := .bool x11) rfl ?_
  refine WL.nil ?_
  refine hK9 _ _ ?_
  refine W.seqK fun K12 hK12 => ?_
  refine W.seqK fun K13 hK13 => ?_
  refine W.region ?_
  refine WL.move (v := .bool x11) rfl ?_
  refine WL.not rfl ?_
  refine WL.nil ?_
  refine hK13 _ _ ?_
  rcases iteE hf with ⟨hc14, hf⟩ | ⟨hc14, hf⟩
  {
  refine W.cond_true (bool_tr rfl hc14) ?_
  refine W.seqK fun K15 hK15 => ?_
  refine W.region ?_
  refine WL.build (vs := []) (cs := [.int .i64 0, .int .i64 0, .int .i64 0, .int .i64 0, .int .i64 0, .int .i64 0, .int .i64 0, .slice none 0 0, .slice none 0 0, .slice none 0 0, .slice none 0 0, .bool false, .slice none 0 0, .slice none 0 0, .slice none 0 0, .slice none 0 0, .slice none 0 0, .bool false]) trivial (bld PL53 (by kernel_rfl)) ?_
  refine WL.storeAll (vs := [.int .i64 0, .int .i64 0, .int .i64 0, .int .i64 0, .int .i64 0, .int .i64 0, .int .i64 0, .slice none 0 0, .slice none 0 0, .slice none 0 0, .slice none 0 0, .bool false, .slice none 0 0, .slice none 0 0, .slice none 0 0, .slice none 0 0, .slice none 0 0, .bool false]) hs 0 rfl TI53 rfl rfl rfl rfl (ones_of rfl) rfl (fun w hs => ?_)
  refine WL.assign (v := .bool false) rfl ?_
  refine WL.nil ?_
  refine hK15 _ _ ?_
  refine W.ret ?_
  have hr := Option.some.inj hf; subst hr
  have hs := hs.add (it := vl t_api_Message (⟨0, 0, 0, (⟨0, 0⟩ : api_AccessID), 0, 0, (⟨[], []⟩ : api_Certificate), (⟨[], []⟩ : api_Certificate), false, (⟨[], []⟩ : api_Certificate), [], [], [], false⟩ : api_Message) (.agg [.int .i64 0, .int .i64 0, .int .i64 0, .int .i64 0, .int .i64 0, .int .i64 0, .int .i64 0, .slice none 0 0, .slice none 0 0, .slice none 0 0, .slice none 0 0, .bool false, .slice none 0 0, .slice none 0 0, .slice none 0 0, .slice none 0 0, .slice none 0 0, .bool false].toArray)) fun ok hA => V_agg (show t_api_Message.R ok _ _ _ from ⟨[.int .i64 0], [.int .i64 0, .int .i64 0, .int .i64 0, .int .i64 0, .int .i64 0, .int .i64 0, .slice none 0 0, .slice none 0 0, .slice none 0 0, .slice none 0 0, .bool false, .slice none 0 0, .slice none 0 0, .slice none 0 0, .slice none 0 0, .slice none 0 0, .bool false], rfl, rfl, ⟨[.int .i64 0], [.int .i64 0, .int .i64 0, .int .i64 0, .int .i64 0, .int .i64 0, .slice none 0 0, .slice none 0 0, .slice none 0 0, .slice none 0 0, .bool false, .slice none 0 0, .slice none 0 0, .slice none 0 0, .slice none 0 0, .slice none 0 0, .bool false], rfl, rfl, ⟨[.int .i64 0], [.int .i64 0, .int .i64 0, .int .i64 0, .int .i64 0, .slice none 0 0, .slice none 0 0, .slice none 0 0, .slice none 0 0, .bool false, .slice none 0 0, .slice none 0 0, .slice none 0 0, .slice none 0 0, .slice none 0 0, .bool false], rfl, rfl, ⟨[.int .i64 0, .int .i64 0], [.int .i64 0, .int .i64 0, .slice none 0 0, .slice none 0 0, .slice none 0 0, .slice none 0 0, .bool false, .slice none 0 0, .slice none 0 0, .slice none 0 0, .slice none 0 0, .slice none 0 0, .bool false], rfl, ⟨[.int .i64 0], [.int .i64 0], rfl, rfl, rfl⟩, ⟨[.int .i64 0], [.int .i64 0, .slice none 0 0, .slice none 0 0, .slice none 0 0, .slice none 0 0, .bool false, .slice none 0 0, .slice none 0 0, .slice none 0 0, .slice none 0 0, .slice none 0 0, .bool false], rfl, rfl, ⟨[.int .i64 0], [.slice none 0 0, .slice none 0 0, .slice none 0 0, .slice none 0 0, .bool false, .slice none 0 0, .slice none 0 0, .slice none 0 0, .slice none 0 0, .slice none 0 0, .bool false], rfl, rfl, ⟨[.slice none 0 0, .slice none 0 0], [.slice none 0 0, .slice none 0 0, .bool false, .slice none 0 0, .slice none 0 0, .slice none 0 0, .slice none 0 0, .slice none 0 0, .bool false], rfl, ⟨[.slice none 0 0], [.slice none 0 0], rfl, R_nil, R_nil⟩, ⟨[.slice none 0 0, .slice none 0 0], [.bool false, .slice none 0 0, .slice none 0 0, .slice none 0 0, .slice none 0 0, .slice none 0 0, .bool false], rfl, ⟨[.slice none 0 0], [.slice none 0 0], rfl, R_nil, R_nil⟩, ⟨[.bool false], [.slice none 0 0, .slice none 0 0, .slice none 0 0, .slice none 0 0, .slice none 0 0, .bool false], rfl, rfl, ⟨[.slice none 0 0, .slice none 0 0], [.slice none 0 0, .slice none 0 0, .slice none 0 0, .bool false], rfl, ⟨[.slice none 0 0], [.slice none 0 0], rfl, R_nil, R_nil⟩, ⟨[.slice none 0 0], [.slice none 0 0, .slice none 0 0, .bool false], rfl, R_nil, ⟨[.slice none 0 0], [.slice none 0 0, .bool false], rfl, R_nil, ⟨[.slice none 0 0], [.bool false], rfl, R_nil, rfl⟩⟩⟩⟩⟩⟩⟩⟩⟩⟩⟩⟩⟩) rfl
  exact ⟨_, resOk_two rfl (res_all hs 0 rfl TI53 rfl rfl) rfl, [.int .i64 0, .int .i64 0, .int .i64 0, .int .i64 0, .int .i64 0, .int .i64 0, .int .i64 0, .slice none 0 0, .slice none 0 0, .slice none 0 0, .slice none 0 0, .bool false, .slice none 0 0, .slice none 0 0, .slice none 0 0, .slice none 0 0, .slice none 0 0, .bool false], rfl, (hs.mask []).pick [0]⟩ }
  {
  refine W.cond_false (bool_tr rfl hc14) ?_
  refine W.skip ?_
  refine hK12 _ _ ?_
  refine W.seqK fun K16 hK16 => ?_
  refine W.region ?_
  refine WL.fieldAddr (m := 1) rfl FA39_1 rfl ?_
  refine WL.loadF (z := x1.Packets) F_network_Network_Packets hs 1 rfl 0 rfl rfl TI36 (.inr rfl) rfl rfl (fun v17 hs => ?_)
  obtain ⟨a18, c19, rfl⟩ := hs.slice 0 rfl
  refine WL.move (v := .int .i64 x10) rfl ?_
  obtain ⟨x20, hxx20, hf⟩ := bindE hf
  refine WL.indexAddr hs 0 rfl UN36 TI69 rfl rfl hxx20 (fun ad21 hs => ?_)
  refine WL.fieldAddrP (z := x20.Message) F_network_Packet_Message hs 0 rfl rfl FA69_1 rfl (fun ad22 hs => ?_)
  refine WL.loadP hs 0 rfl TI53 (.inl rfl) rfl (fun v23 hs => ?_)
  obtain ⟨cs24, hl25, rfl⟩ := hs.aggv (n := 18) 0 rfl rfl rfl
  refine WL.storeAll (vs := cs24) hs 0 rfl TI53 rfl rfl rfl hl25 (hs.ones 0 rfl rfl) rfl (fun w hs => ?_)
  refine WL.assign (v := .bool true) rfl ?_
  refine WL.nil ?_
  refine hK16 _ _ ?_
  refine W.ret ?_
  have hr := Option.some.inj hf; subst hr
  exact ⟨_, resOk_two rfl (res_all hs 0 rfl TI53 rfl hl25) rfl, cs24, rfl, (hs.mask []).pick [0]⟩ }
theorem adversary_matches.calls {ok : Nat → Prop} {w0 : World} {x1 : adversary_Rule} {x5 : api_Message} {v2 : Value} {v6 : Value} {r : Bool} (hf : adversary_matches x1 x5 = some r) (i0 : (vl t_adversary_Rule x1 v2).holds ok w0) (i1 : (vl t_api_Message x5 v6).holds ok w0) :
    Calls Tryd.prog 43 #[v2, v6] w0 fun e w' => ∃ v, e = .returned v ∧ ∃ y : Unit, v = .bool r ∧ St ok (bz w0) w' [] [] := by
  unfold adversary_matches at hf
  refine calls_of_W (fn := Tryd.f43) (N := 28) Tryd.func43 rfl Tryd.ntmps43 rfl ?_
  have hs : St ok (bz w0) w0 [vl t_adversary_Rule x1 v2, vl t_api_Message x5 v6] [] := St.init (All.cons i0 (All.cons i1 All.nil))
  clear i0 i1
  obtain ⟨cs3, hl4, rfl⟩ := hs.aggv (n := 2) 0 rfl rfl rfl
  obtain ⟨cs7, hl8, rfl⟩ := hs.aggv (n := 18) 1 rfl rfl rfl
  refine W.seqK fun K9 hK9 => ?_
  refine W.region ?_
  refine WL.box (vs := cs3) hs rfl rfl (fun g10 w hs => ?_)
  refine WL.box (vs := cs7) hs rfl rfl (fun g11 w hs => ?_)
  refine WL.assign (v := .bool false) rfl ?_
  refine WL.nil ?_
  refine hK9 _ _ ?_
  refine W.seqK fun K12 hK12 => ?_
  refine W.seqK fun K13 hK13 => ?_
  refine W.region ?_
  refine WL.fieldAddr (m := 0) rfl FA32_0 rfl ?_
  refine WL.loadF (z := x1.Kind) F_adversary_Rule_Kind hs 1 rfl 0 rfl rfl TI3 (.inr rfl) rfl rfl (fun v14 hs => ?_)
  obtain rfl := hs.int 0 rfl
  refine WL.nil ?_
  refine hK13 _ _ ?_
  refine W.block ?_
  refine W.seqK fun K15 hK15 => ?_
  have Jk18 : ∀ (x17 : Bool) (ρ : Env) (w : World), ρ 2 = .pointer (some ⟨g10, 0, none⟩) → ρ 3 = .pointer (some ⟨g11, 0, none⟩) → ρ 6 = .int .i64 x1.Kind → ρ 7 = .bool x17 → St ok (bz w0) w [vl t_api_Message x5 (.agg cs7.toArray), vl t_adversary_Rule x1 (.agg cs3.toArray)] [blk g11 53 cs7, blk g10 32 cs3] → adversary_matches.j2 x1 x5 x17 = some r → K15 ρ w := by
    intro x17 ρ w h16_2 h16_3 h16_6 h16_7 hs hf
    refine hK15 _ _ ?_
    unfold adversary_matches.j2 at hf
    rcases iteE hf with ⟨hc19, hf⟩ | ⟨hc19, hf⟩
    {
    refine W.cond_true (bool_tr h16_7 hc19) ?_
    refine W.seqK fun K20 hK20 => ?_
    refine W.region ?_
    refine WL.fieldAddr (m := 2) h16_3 FA53_2 rfl ?_
    refine WL.loadF (z := x5.To) F_api_Message_To hs 0 rfl 0 rfl rfl TI3 (.inr rfl) rfl rfl (fun v21 hs => ?_)
    obtain rfl := hs.int 0 rfl
    refine WL.fieldAddr (m := 1) h16_2 FA32_1 rfl ?_
    refine WL.loadF (z := x1.Arg) F_adversary_Rule_Arg hs 1 rfl 2 rfl rfl TI3 (.inr rfl) rfl rfl (fun v22 hs => ?_)
    obtain rfl := hs.int 0 rfl
    refine WL.bin (v := .bool (x5.To == x1.Arg)) rfl rfl (ib_eql _ _ _) ?_
    refine WL.assign (v := .bool (x5.To == x1.Arg)) rfl ?_
    refine WL.nil ?_
    refine hK20 _ _ ?_
    refine W.ret ?_
    have hr := Option.some.inj hf; subst hr
    exact ⟨_, resOk_one rfl rfl, (), rfl, (hs.mask []).pick []⟩ }
    {
    refine W.cond_false (bool_tr h16_7 hc19) ?_
    refine W.seqK fun K23 hK23 => ?_
    have Jk26 : ∀ (x25 : Bool) (ρ : Env) (w : World), ρ 2 = .pointer (some ⟨g10, 0, none⟩) → ρ 3 = .pointer (some ⟨g11, 0, none⟩) → ρ 15 = .bool x25 → St ok (bz w0) w [vl t_api_Message x5 (.agg cs7.toArray), vl t_adversary_Rule x1 (.agg cs3.toArray)] [blk g11 53 cs7, blk g10 32 cs3] → adversary_matches.j1 x1 x5 x25 = some r → K23 ρ w := by
      intro x25 ρ w h24_2 h24_3 h24_15 hs hf
      refine hK23 _ _ ?_
      unfold adversary_matches.j1 at hf
      rcases iteE hf with ⟨hc27, hf⟩ | ⟨hc27, hf⟩
      {
      refine W.cond_true (bool_tr h24_15 hc27) ?_
      refine W.seqK fun K28 hK28 => ?_
      refine W.region ?_
      refine WL.fieldAddr (m := 1) h24_3 FA53_1 rfl ?_
      refine WL.loadF (z := x5.From) F_api_Message_From hs 0 rfl 0 rfl rfl TI3 (.inr rfl) rfl rfl (fun v29 hs => ?_)
      obtain rfl := hs.int 0 rfl
      refine WL.fieldAddr (m := 1) h24_2 FA32_1 rfl ?_
      refine WL.loadF (z := x1.Arg) F_adversary_Rule_Arg hs 1 rfl 2 rfl rfl TI3 (.inr rfl) rfl rfl (fun v30 hs => ?_)
      obtain rfl := hs.int 0 rfl
      refine WL.bin (v := .bool (x5.From == x1.Arg)) rfl rfl (ib_eql _ _ _) ?_
      refine WL.assign (v := .bool (x5.From == x1.Arg)) rfl ?_
      refine WL.nil ?_
      refine hK28 _ _ ?_
      refine W.ret ?_
      have hr := Option.some.inj hf; subst hr
      exact ⟨_, resOk_one rfl rfl, (), rfl, (hs.mask []).pick []⟩ }
      {
      refine W.cond_false (bool_tr h24_15 hc27) ?_
      refine W.skip ?_
      refine hK12 _ _ ?_
      refine W.seqK fun K31 hK31 => ?_
      refine W.region ?_
      refine WL.fieldAddr (m := 0) h24_3 FA53_0 rfl ?_
      refine WL.loadF (z := x5.Kind) F_api_Message_Kind hs 0 rfl 0 rfl rfl TI3 (.inr rfl) rfl rfl (fun v32 hs => ?_)
      obtain rfl := hs.int 0 rfl
      refine WL.fieldAddr (m := 1) h24_2 FA32_1 rfl ?_
      refine WL.loadF (z := x1.Arg) F_adversary_Rule_Arg hs 1 rfl 2 rfl rfl TI3 (.inr rfl) rfl rfl (fun v33 hs => ?_)
      obtain rfl := hs.int 0 rfl
      refine WL.bin (v := .bool (x5.Kind == x1.Arg)) rfl rfl (ib_eql _ _ _) ?_
      refine WL.assign (v := .bool (x5.Kind == x1.Arg)) rfl ?_
      refine WL.nil ?_
      refine hK31 _ _ ?_
      refine W.ret ?_
      have hr := Option.some.inj hf; subst hr
      exact ⟨_, resOk_one rfl rfl, (), rfl, (hs.mask []).pick []⟩ }
    refine W.seqK fun K34 hK34 => ?_
    refine W.region ?_
    refine WL.bin (v := .bool (x1.Kind == 2)) h16_6 rfl (ib_eql _ _ _) ?_
    refine WL.assign (v := .bool (x1.Kind == 2)) rfl ?_
    refine WL.nil ?_
    refine hK34 _ _ ?_
    rcases iteE hf with ⟨hc35, hf⟩ | ⟨hc35, hf⟩
    {
    refine W.cond_true (bool_tr rfl hc35) ?_
    refine W.skip ?_
    exact Jk26 true _ _ h16_2 h16_3 (bool_tr rfl hc35) ((hs.mask [true, true]).pick [0, 1]) hf }
    {
    refine W.cond_false (bool_tr rfl hc35) ?_
    refine W.region ?_
    refine WL.bin (v := .bool (x1.Kind == 5)) h16_6 rfl (ib_eql _ _ _) ?_
    refine WL.assign (v := .bool (x1.Kind == 5)) rfl ?_
    refine WL.nil ?_
    exact Jk26 (x1.Kind == 5) _ _ h16_2 h16_3 rfl ((hs.mask [true, true]).pick [0, 1]) hf } }
  refine W.seqK fun K36 hK36 => ?_
  refine W.region ?_
  refine WL.bin (v := .bool (x1.Kind == 1)) rfl rfl (ib_eql _ _ _) ?_
  refine WL.assign (v := .bool (x1.Kind == 1)) rfl ?_
  refine WL.nil ?_
  refine hK36 _ _ ?_
  rcases iteE hf with ⟨hc37, hf⟩ | ⟨hc37, hf⟩
  {
  refine W.cond_true (bool_tr rfl hc37) ?_
  refine W.skip ?_
  exact Jk18 true _ _ rfl rfl rfl (bool_tr rfl hc37) ((hs.mask [true, true]).pick [2, 1]) hf }
  {
  refine W.cond_false (bool_tr rfl hc37) ?_
  refine W.region ?_
  refine WL.bin (v := .bool (x1.Kind == 4)) rfl rfl (ib_eql _ _ _) ?_
  refine WL.assign (v := .bool (x1.Kind == 4)) rfl ?_
  refine WL.nil ?_
  exact Jk18 (x1.Kind == 4) _ _ rfl rfl rfl rfl ((hs.mask [true, true]).pick [2, 1]) hf }
theorem adversary_filterOf_1.calls {ok : Nat → Prop} {w0 : World} {x1 : List network_Packet} {x4 : adversary_Rule} {x6 : Int} {a2 : Option Addr} {c3 : Nat} {ad5 : Addr} {ad7 : Addr} {r : List network_Packet} (hf : adversary_filterOf_1 x1 x4 x6 = some r) (i0 : (vl (tSlice t_network_Packet) x1 (.slice a2 x1.length c3)).holds ok w0) (i1 : (pl t_adversary_Rule x4 ad5).holds ok w0) (i2 : (pl (tInt .i64) x6 ad7).holds ok w0) :
    Calls Tryd.prog 42 #[.slice a2 x1.length c3, .pointer (some ad5), .pointer (some ad7)] w0 fun e w' => ∃ v, e = .returned v ∧ ∃ y : (Option Addr × Nat), v = .slice y.1 r.length y.2 ∧ St ok (bz w0) w' [vl (tSlice t_network_Packet) r (.slice y.1 r.length y.2)] [] := by
  unfold adversary_filterOf_1 at hf
  refine calls_of_W (fn := Tryd.f42) (N := 62) Tryd.func42 rfl Tryd.ntmps42 rfl ?_
  have hs : St ok (bz w0) w0 [vl (tSlice t_network_Packet) x1 (.slice a2 x1.length c3), pl t_adversary_Rule x4 ad5, pl (tInt .i64) x6 ad7] [] := St.init (All.cons i0 (All.cons i1 (All.cons i2 All.nil)))
  clear i0 i1 i2
  refine W.seqK fun K8 hK8 => ?_
  refine W.region ?_
  refine WL.assign (v := .slice none 0 0) rfl ?_
  refine WL.nil ?_
  refine hK8 _ _ ?_
  refine W.seqK fun K9 hK9 => ?_
  refine W.region ?_
  refine WL.move (v := .slice a2 x1.length c3) rfl ?_
  refine WL.len (v := .slice a2 x1.length c3) rfl (len_slice UN36) ?_
  refine WL.assign (v := .int .i64 (x1.length : Int)) rfl ?_
  refine WL.nil ?_
  refine hK9 _ _ ?_
  refine W.seqK fun K10 hK10 => ?_
  refine W.seqK fun K11 hK11 => ?_
  refine W.region ?_
  refine WL.fieldAddrP (z := x4.Kind) F_adversary_Rule_Kind hs 1 rfl rfl FA32_0 rfl (fun ad12 hs => ?_)
  refine WL.loadP hs 0 rfl TI3 (.inr rfl) rfl (fun v13 hs => ?_)
  obtain rfl := hs.int 0 rfl
  refine WL.nil ?_
  refine hK11 _ _ ?_
  refine W.block ?_
  refine W.seqK fun K14 hK14 => ?_
  refine W.region ?_
  refine WL.bin (v := .bool (x4.Kind == 7)) rfl rfl (ib_eql _ _ _) ?_
  refine WL.assign (v := .bool (x4.Kind == 7)) rfl ?_
  refine WL.nil ?_
  refine hK14 _ _ ?_
  rcases iteE hf with ⟨hc15, hf⟩ | ⟨hc15, hf⟩
  {
  refine W.cond_true (bool_tr rfl hc15) ?_
  refine W.seqK fun K16 hK16 => ?_
  refine W.region ?_
  refine WL.move (v := .slice a2 x1.length c3) rfl ?_
  obtain ⟨x17, hxx17, hf⟩ := bindE hf
  refine WL.slice_h hs 2 rfl UN36 TI69 rfl rfl hxx17 (fun a18 c19 hs => ?_)
  refine WL.assign (v := .slice a18 x17.length c19) rfl ?_
  refine WL.nil ?_
  refine hK16 _ _ ?_
  refine W.ret ?_
  have hr := Option.some.inj hf; subst hr
  exact ⟨_, resOk_one rfl rfl, (a18, c19), rfl, (hs.mask []).pick [0]⟩ }
  {
  refine W.cond_false (bool_tr rfl hc15) ?_
  refine W.seqK fun K20 hK20 => ?_
  refine W.region ?_
  refine WL.bin (v := .bool (x4.Kind == 8)) rfl rfl (ib_eql _ _ _) ?_
  refine WL.assign (v := .bool (x4.Kind == 8)) rfl ?_
  refine WL.nil ?_
  refine hK20 _ _ ?_
  rcases iteE hf with ⟨hc21, hf⟩ | ⟨hc21, hf⟩
  {
  refine W.cond_true (bool_tr rfl hc21) ?_
  refine W.seqK fun K22 hK22 => ?_
  refine W.region ?_
  refine WL.move (v := .slice a2 x1.length c3) rfl ?_
  refine WL.move (v := .int .i64 (x1.length : Int)) rfl ?_
  obtain ⟨x23, ex23, hf⟩ := letE hf
  refine WL.bin (v := .int .i64 x23) rfl rfl (ib_as ex23 (ib_sub _ _ _)) ?_
  obtain ⟨x24, hxx24, hf⟩ := bindE hf
  refine WL.slice_l hs 2 rfl UN36 TI69 rfl rfl hxx24 (fun a25 c26 hs => ?_)
  refine WL.assign (v := .slice a25 x24.length c26) rfl ?_
  refine WL.nil ?_
  refine hK22 _ _ ?_
  refine W.ret ?_
  have hr := Option.some.inj hf; subst hr
  exact ⟨_, resOk_one rfl rfl, (a25, c26), rfl, (hs.mask []).pick [0]⟩ }
  {
  refine W.cond_false (bool_tr rfl hc21) ?_
  refine W.seqK fun K27 hK27 => ?_
  refine W.region ?_
  refine WL.bin (v := .bool (x4.Kind == 9)) rfl rfl (ib_eql _ _ _) ?_
  refine WL.assign (v := .bool (x4.Kind == 9)) rfl ?_
  refine WL.nil ?_
  refine hK27 _ _ ?_
  rcases iteE hf with ⟨hc28, hf⟩ | ⟨hc28, hf⟩
  {
  refine W.cond_true (bool_tr rfl hc28) ?_
  refine W.seqK fun K29 hK29 => ?_
  refine W.region ?_
  refine WL.loadP hs 4 rfl TI3 (.inr rfl) rfl (fun v30 hs => ?_)
  obtain rfl := hs.int 0 rfl
  refine WL.move (v := .int .i64 (x1.length : Int)) rfl ?_
  obtain ⟨hn32, hf⟩ := guardE hf
  obtain ⟨x31, ex31, hf⟩ := letE hf
  refine WL.bin (v := .int .i64 x31) rfl rfl (ib_as ex31 (ib_rem _ _ _ hn32)) ?_
  refine WL.move (v := .int .i64 (x1.length : Int)) rfl ?_
  obtain ⟨x33, ex33, hf⟩ := letE hf
  refine WL.bin (v := .int .i64 x33) rfl rfl (ib_as ex33 (ib_add _ _ _)) ?_
  refine WL.move (v := .int .i64 (x1.length : Int)) rfl ?_
  obtain ⟨hn35, hf⟩ := guardE hf
  obtain ⟨x34, ex34, hf⟩ := letE hf
  refine WL.bin (v := .int .i64 x34) rfl rfl (ib_as ex34 (ib_rem _ _ _ hn35)) ?_
  refine WL.assign (v := .int .i64 x34) rfl ?_
  refine WL.nil ?_
  refine hK29 _ _ ?_
  refine W.seqK fun K36 hK36 => ?_
  refine W.region ?_
  refine WL.move (v := .slice a2 x1.length c3) rfl ?_
  refine WL.move (v := .int .i64 x34) rfl ?_
  refine WL.move (v := .int .i64 x34) rfl ?_
  obtain ⟨x37, ex37, hf⟩ := letE hf
  refine WL.bin (v := .int .i64 x37) rfl rfl (ib_as ex37 (ib_add _ _ _)) ?_
  obtain ⟨x38, hxx38, hf⟩ := bindE hf
  refine WL.slice_lh hs 3 rfl UN36 TI69 rfl rfl rfl hxx38 (fun a39 c40 hs => ?_)
  refine WL.assign (v := .slice a39 x38.length c40) rfl ?_
  refine WL.nil ?_
  refine hK36 _ _ ?_
  refine W.ret ?_
  have hr := Option.some.inj hf; subst hr
  exact ⟨_, resOk_one rfl rfl, (a39, c40), rfl, (hs.mask []).pick [0]⟩ }
  {
  refine W.cond_false (bool_tr rfl hc28) ?_
  refine W.skip ?_
  refine hK10 _ _ ?_
  refine W.seqK fun K41 hK41 => ?_
  refine W.region ?_
  refine WL.assign (v := .slice none 0 0) rfl ?_
  refine WL.nil ?_
  refine hK41 _ _ ?_
  refine W.seqK fun K42 hK42 => ?_
  have hs := hs.ownNil t_network_Packet 69
  have Jk48 : ∀ (x44 : List network_Packet) (a45 : Option Addr) (c46 : Nat) (n47 : Nat) (ρ : Env) (w : World), ρ 0 = .slice a2 x1.length c3 → ρ 7 = .slice a45 n47 c46 → St ok (bz w0) w [vl (tSlice t_network_Packet) x1 (.slice a2 x1.length c3)] [own t_network_Packet 69 (.slice a45 n47 c46) x44] → adversary_filterOf_1.j1 x1 x44 = some r → K42 ρ w := by
    intro x44 a45 c46 n47 ρ w h43_0 h43_7 hs hf
    refine hK42 _ _ ?_
    unfold adversary_filterOf_1.j1 at hf
    refine W.seqK fun K49 hK49 => ?_
    refine W.seqK fun K50 hK50 => ?_
    refine W.region ?_
    refine WL.move (v := .slice a45 n47 c46) h43_7 ?_
    refine WL.len (v := .slice a45 n47 c46) rfl (len_own hs 0 rfl UN36) ?_
    refine WL.bin (v := .bool ((x44.length : Int) == 0)) rfl rfl (ib_eql _ _ _) ?_
    refine WL.nil ?_
    refine hK50 _ _ ?_
    rcases iteE hf with ⟨hc51, hf⟩ | ⟨hc51, hf⟩
    {
    refine W.cond_true (bool_tr rfl hc51) ?_
    refine W.seqK fun K52 hK52 => ?_
    refine W.region ?_
    refine WL.move (v := .slice a2 x1.length c3) h43_0 ?_
    refine WL.assign (v := .slice a2 x1.length c3) rfl ?_
    refine WL.nil ?_
    refine hK52 _ _ ?_
    refine W.ret ?_
    have hr := Option.some.inj hf; subst hr
    exact ⟨_, resOk_one rfl rfl, (a2, c3), rfl, (hs.mask []).pick [0]⟩ }
    {
    refine W.cond_false (bool_tr rfl hc51) ?_
    refine W.skip ?_
    refine hK49 _ _ ?_
    refine W.seqK fun K53 hK53 => ?_
    refine W.region ?_
    refine WL.move (v := .slice a45 n47 c46) h43_7 ?_
    refine WL.assign (v := .slice a45 n47 c46) rfl ?_
    refine WL.nil ?_
    refine hK53 _ _ ?_
    refine W.ret ?_
    have hr := Option.some.inj hf; subst hr
    obtain rfl := hs.ownLen 0 rfl
    have hs := hs.freezeOwn 0 rfl
    exact ⟨_, resOk_one rfl rfl, (a45, c46), rfl, (hs.mask []).pick [0]⟩ }
  refine W.seqK fun K54 hK54 => ?_
  refine W.region ?_
  refine WL.move (v := .slice a2 x1.length c3) rfl ?_
  refine WL.len (v := .slice a2 x1.length c3) rfl (len_slice UN36) ?_
  refine WL.move (v := .int .i64 0) rfl ?_
  refine WL.nil ?_
  refine hK54 _ _ ?_
  refine W.block ?_
  obtain ⟨bs61, hbs61, hfs61⟩ := bindE hf
  refine W.loop hbs61 (fun s ρ w => match s with | (x56, x60) => ∃ (a57 : Option Addr), ∃ (c58 : Nat), ∃ (n59 : Nat), ρ 0 = .slice a2 x1.length c3 ∧ ρ 1 = .pointer (some ad5) ∧ ρ 7 = .slice a57 n59 c58 ∧ ρ 38 = .slice a2 x1.length c3 ∧ ρ 39 = .int .i64 (x1.length : Int) ∧ ρ 40 = .int .i64 x60 ∧ St ok (bz w0) w [vl (tSlice t_network_Packet) x1 (.slice a2 x1.length c3), pl t_adversary_Rule x4 ad5] [own t_network_Packet 69 (.slice a57 n59 c58) x56]) ⟨none, 0, 0, rfl, rfl, rfl, rfl, rfl, rfl, (hs.mask [true]).pick [2, 3]⟩ ?_
  intro s ρ w os61 hI hf hbbs61
  obtain ⟨x56, x60⟩ := s
  obtain ⟨a57, c58, n59, h55_0, h55_1, h55_7, h55_38, h55_39, h55_40, hs⟩ := hI
  unfold adversary_filterOf_1.l1 at hf
  refine W.seqK fun K62 hK62 => ?_
  refine W.region ?_
  refine WL.bin (v := .bool (decide (x60 < (x1.length : Int)))) h55_40 h55_39 (ib_lss _ _ _) ?_
  refine WL.nil ?_
  refine hK62 _ _ ?_
  refine W.seqK fun K63 hK63 => ?_
  rcases iteE hf with ⟨hc64, hf⟩ | ⟨hc64, hf⟩
  {
  refine W.cond_true (bool_tr rfl hc64) ?_
  refine W.skip ?_
  refine hK63 _ _ ?_
  refine W.seqK fun K65 hK65 => ?_
  have Jk71 : ∀ (x67 : List network_Packet) (a68 : Option Addr) (c69 : Nat) (n70 : Nat) (ρ : Env) (w : World), ρ 0 = .slice a2 x1.length c3 → ρ 1 = .pointer (some ad5) → ρ 7 = .slice a68 n70 c69 → ρ 38 = .slice a2 x1.length c3 → ρ 39 = .int .i64 (x1.length : Int) → ρ 40 = .int .i64 x60 → St ok (bz w0) w [vl (tSlice t_network_Packet) x1 (.slice a2 x1.length c3), pl t_adversary_Rule x4 ad5] [own t_network_Packet 69 (.slice a68 n70 c69) x67] → adversary_filterOf_1.j2 x60 x67 = some os61 → K65 ρ w := by
    intro x67 a68 c69 n70 ρ w h66_0 h66_1 h66_7 h66_38 h66_39 h66_40 hs hf
    refine hK65 _ _ ?_
    unfold adversary_filterOf_1.j2 at hf
    refine W.region ?_
    obtain ⟨x72, ex72, hf⟩ := letE hf
    refine WL.bin (v := .int .i64 x72) h66_40 rfl (ib_as ex72 (ib_add _ _ _)) ?_
    refine WL.move (v := .int .i64 x72) rfl ?_
    refine WL.nil ?_
    exact ⟨_, (Option.some.inj hf).symm, a68, c69, n70, h66_0, h66_1, h66_7, h66_38, h66_39, rfl, (hs.mask [true]).pick [0, 1]⟩
  refine W.block ?_
  refine W.seqK fun K73 hK73 => ?_
  refine W.region ?_
  obtain ⟨x74, hxx74, hf⟩ := bindE hf
  refine WL.indexAddr hs 0 rfl UN36 TI69 h55_38 h55_40 hxx74 (fun ad75 hs => ?_)
  refine WL.loadP hs 0 rfl TI69 (.inl rfl) rfl (fun v76 hs => ?_)
  obtain ⟨cs77, hl78, rfl⟩ := hs.aggv (n := 19) 0 rfl rfl rfl
  refine WL.alloc hs ZV69 (fun g79 w hs => ?_)
  refine WL.storeAll (vs := cs77) hs 0 rfl TI69 rfl rfl rfl hl78 (hs.ones 0 rfl rfl) rfl (fun w hs => ?_)
  refine WL.nil ?_
  refine hK73 _ _ ?_
  refine W.seqK fun K80 hK80 => ?_
  obtain ⟨x87, hxx87, hf⟩ := bindE hf
  refine W.any (by kernel_rfl) 8 0 [true, true, true, true, true, true, true, true] rfl rfl (poAt [pq (fun y : List Value => .agg y.toArray) (fun v => [vl t_adversary_Rule x4 v]) (fun v => []), pv (.pointer (some ⟨g79, 1, none⟩)), pq (fun y : List Value => .agg y.toArray) (fun v => [vl t_api_Message x74.Message v]) (fun v => []), pv (.bool x87), pq (fun y : Addr => .pointer (some y)) (fun v => [pl (tInt .i64) x4.Kind (adOf v)]) (fun v => []), pv (.int .i64 x4.Kind), pv (.bool (decide (x4.Kind ≤ 3))), pv (.bool (x87 == (decide (x4.Kind ≤ 3))))]) (Λ := [blk g79 69 cs77, own t_network_Packet 69 (.slice a57 n59 c58) x56]) hs (by kernel_rfl) (by kernel_rfl) (by kernel_rfl) ⟨⟨⟨⟨⟨⟨⟨⟨trivial, ?_⟩, ?_⟩, ?_⟩, ?_⟩, ?_⟩, ?_⟩, ?_⟩, ?_⟩ ?_
  {
  intro ρ w Γx Λx hs hu hp
  refine WL.loadP hs (Γx.length + 3) (getApp rfl) TI32 (.inl rfl) ((hu 1 rfl).trans h55_1) (fun v81 hs => ?_)
  obtain ⟨cs82, hl83, rfl⟩ := hs.aggv (n := 2) 0 rfl rfl rfl
  have hs := hs.add (it := vl t_adversary_Rule x4 (.agg cs82.toArray)) fun ok hA => hA.get 0 rfl
  exact WL.nil ⟨rfl, _, rfl, ⟨cs82, rfl⟩, hs.cutG 1 1⟩ }
  {
  intro ρ w Γx Λx hs hu hp
  refine WL.fieldAddr (m := 1) (hu 9 rfl) FA69_1 rfl ?_
  exact WL.nil ⟨rfl, _, rfl, rfl, hs.cutG 0 0⟩ }
  {
  intro ρ w Γx Λx hs hu hp
  have e90 : ρ 45 = .pointer (some ⟨g79, 1, none⟩) := (hp 1 rfl).1
  refine WL.loadF (z := x74.Message) F_network_Packet_Message hs (Λx.length + 0) (getApp rfl) (Γx.length + 0) (getApp rfl) rfl TI53 (.inl rfl) e90 rfl (fun v84 hs => ?_)
  obtain ⟨cs85, hl86, rfl⟩ := hs.aggv (n := 18) 0 rfl rfl rfl
  have hs := hs.add (it := vl t_api_Message x74.Message (.agg cs85.toArray)) fun ok hA => hA.get 0 rfl
  exact WL.nil ⟨rfl, _, rfl, ⟨cs85, rfl⟩, hs.cutG 1 1⟩ }
  {
  intro ρ w Γx Λx hs hu hp
  obtain ⟨⟨cs91, e93r⟩, hm94⟩ := hp 0 rfl
  have e93 : ρ 44 = .agg cs91.toArray := e93r
  rw [e93r] at hm94
  have hs := hs.memo1 (it := vl t_adversary_Rule x4 (.agg cs91.toArray)) (List.mem_append.2 (.inl (hm94 _ (List.mem_of_getElem? (i := 0) rfl))))
  have hl92 := hs.agglen (n := 2) 0 rfl rfl rfl
  obtain ⟨⟨cs95, e97r⟩, hm98⟩ := hp 2 rfl
  have e97 : ρ 46 = .agg cs95.toArray := e97r
  rw [e97r] at hm98
  have hs := hs.memo1 (it := vl t_api_Message x74.Message (.agg cs95.toArray)) (List.mem_cons_of_mem _ (List.mem_append.2 (.inl (hm98 _ (List.mem_of_getElem? (i := 0) rfl)))))
  have hl96 := hs.agglen (n := 18) 0 rfl rfl rfl
  refine WL.call (vs := [.agg cs91.toArray, .agg cs95.toArray]) hs FN43 ⟨e93, ⟨e97, trivial⟩⟩ (fun ok hA => adversary_matches.calls (x1 := x4) (x5 := x74.Message) hxx87 (hA.get 1 rfl) (hA.get 0 rfl)) ?_
  rintro _ w hs
  exact WL.nil ⟨rfl, _, rfl, rfl, hs.cutG 0 2⟩ }
  {
  intro ρ w Γx Λx hs hu hp
  refine WL.fieldAddrP (z := x4.Kind) F_adversary_Rule_Kind hs (Γx.length + 3) (getApp rfl) ((hu 1 rfl).trans h55_1) FA32_0 rfl (fun ad88 hs => ?_)
  have hs := hs.add (it := pl (tInt .i64) x4.Kind ad88) fun ok hA => hA.get 0 rfl
  exact WL.nil ⟨rfl, _, rfl, ⟨ad88, rfl⟩, hs.cutG 1 1⟩ }
  {
  intro ρ w Γx Λx hs hu hp
  obtain ⟨⟨ad99, e100r⟩, hm101⟩ := hp 4 rfl
  have e100 : ρ 48 = .pointer (some ad99) := e100r
  rw [e100r] at hm101
  have hs := hs.memo1 (it := pl (tInt .i64) x4.Kind ad99) (List.mem_append.2 (.inl (hm101 _ (List.mem_of_getElem? (i := 0) rfl))))
  refine WL.loadP hs 0 rfl TI3 (.inr rfl) e100 (fun v89 hs => ?_)
  obtain rfl := hs.int 0 rfl
  exact WL.nil ⟨rfl, _, rfl, rfl, hs.cutG 0 2⟩ }
  {
  intro ρ w Γx Λx hs hu hp
  have e102 : ρ 49 = .int .i64 x4.Kind := (hp 5 rfl).1
  refine WL.bin (v := .bool (decide (x4.Kind ≤ 3))) e102 rfl (ib_leq _ _ _) ?_
  exact WL.nil ⟨rfl, _, rfl, rfl, hs.cutG 0 0⟩ }
  {
  intro ρ w Γx Λx hs hu hp
  have e103 : ρ 47 = .bool x87 := (hp 3 rfl).1
  have e104 : ρ 50 = .bool (decide (x4.Kind ≤ 3)) := (hp 6 rfl).1
  refine WL.eqB UN4 e103 e104 ?_
  exact WL.nil ⟨rfl, _, rfl, rfl, hs.cutG 0 0⟩ }
  {
  intro ρ w hs hu105 hp
  obtain ⟨⟨⟨⟨⟨⟨⟨⟨_, hp0_⟩, hp1_⟩, hp2_⟩, hp3_⟩, hp4_⟩, hp5_⟩, hp6_⟩, hp7_⟩ := hp
  have hs : St ok (bz w0) w [pl (tInt .i64) x4.Kind (adOf (ρ 48)), vl t_api_Message x74.Message (ρ 46), vl t_adversary_Rule x4 (ρ 44), vl t_network_Packet x74 (.agg cs77.toArray), pl t_network_Packet x74 ad75, vl (tSlice t_network_Packet) x1 (.slice a2 x1.length c3), pl t_adversary_Rule x4 ad5] [blk g79 69 cs77, own t_network_Packet 69 (.slice a57 n59 c58) x56] := hs
  have e106 : ρ 51 = .bool (x87 == (decide (x4.Kind ≤ 3))) := hp7_
  have e107 : ρ 50 = .bool (decide (x4.Kind ≤ 3)) := hp6_
  have e108 : ρ 49 = .int .i64 x4.Kind := hp5_
  obtain ⟨ad109, e110⟩ := hp4_
  have e110 : ρ 48 = .pointer (some ad109) := e110
  try rw [e110] at hs
  have e111 : ρ 47 = .bool x87 := hp3_
  obtain ⟨cs112, e114⟩ := hp2_
  have e114 : ρ 46 = .agg cs112.toArray := e114
  try rw [e114] at hs
  have e115 : ρ 45 = .pointer (some ⟨g79, 1, none⟩) := hp1_
  obtain ⟨cs116, e118⟩ := hp0_
  have e118 : ρ 44 = .agg cs116.toArray := e118
  try rw [e118] at hs
  have hl117 := hs.agglen (n := 2) 2 rfl rfl rfl
  have hl113 := hs.agglen (n := 18) 1 rfl rfl rfl
  refine WA.done (by kernel_rfl) ?_
  refine hK80 _ _ ?_
  rcases iteE hf with ⟨hc119, hf⟩ | ⟨hc119, hf⟩
  {
  refine W.cond_true (bool_tr e106 hc119) ?_
  refine W.region ?_
  refine WL.move (v := .slice a57 n59 c58) ((hu105 7 rfl).trans h55_7) ?_
  refine WL.loadAll hs 0 rfl TI69 (hu105 9 rfl) hl78 ?_
  refine WL.buildSlice (n := 1) (vs := [(0, .agg cs77.toArray)]) (cs := cs77) hs ⟨⟨rfl, rfl⟩, trivial⟩ (bls PS36 (by decide) (by simp [fillS, fillL, Value.cells, hl78])) (fun g120 w hs => ?_)
  obtain ⟨x121, hxx121, hf⟩ := bindE hf
  obtain ⟨hbx121, hex121⟩ := appE hxx121
  refine WL.append (ys := [x74]) (zs := x121) hs 2 rfl 0 rfl UN36 EI69 rfl rfl (fun ok hA => (Cells.one (T := t_network_Packet) (R_agg (hA.get 3 rfl) rfl))) hbx121 (by omega) hex121 (fun v122 w hs => ?_)
  obtain ⟨a123, n125, c124, rfl⟩ := hs.ownv3 2 rfl
  refine WL.assign (v := .slice a123 n125 c124) rfl ?_
  refine WL.nil ?_
  exact Jk71 x121 a123 c124 n125 _ _ ((hu105 0 rfl).trans h55_0) ((hu105 1 rfl).trans h55_1) rfl ((hu105 38 rfl).trans h55_38) ((hu105 39 rfl).trans h55_39) ((hu105 40 rfl).trans h55_40) ((hs.mask [false, false, true]).pick [5, 6]) hf }
  {
  refine W.cond_false (bool_tr e106 hc119) ?_
  refine W.skip ?_
  exact Jk71 x56 a57 c58 n59 _ _ ((hu105 0 rfl).trans h55_0) ((hu105 1 rfl).trans h55_1) ((hu105 7 rfl).trans h55_7) ((hu105 38 rfl).trans h55_38) ((hu105 39 rfl).trans h55_39) ((hu105 40 rfl).trans h55_40) ((hs.mask [false, true]).pick [5, 6]) hf } } }
  {
  refine W.cond_false (bool_tr rfl hc64) ?_
  refine W.exit ?_
  have hr := Option.some.inj hf; subst hr
  have hr := hbbs61 _ rfl; subst hr
  have hf := hfs61
  exact Jk48 x56 a57 c58 n59 _ _ h55_0 h55_7 ((hs.mask [true]).pick [0]) hf } } } }
theorem adversary_filterOf.calls {ok : Nat → Prop} {w0 : World} {x1 : adversary_Rule} {x5 : Int} {v2 : Value} {r : (List network_Packet) → Option (List network_Packet)} (hf : adversary_filterOf x1 x5 = some r) (i0 : (vl t_adversary_Rule x1 v2).holds ok w0) :
    Calls Tryd.prog 28 #[v2, .int .i64 x5] w0 fun e w' => ∃ v, e = .returned v ∧ ∃ y : Value, v = y ∧ St ok (bz w0) w' [vl (tFunT Tryd.prog (argK1 (tSlice t_network_Packet)) (tSlice t_network_Packet)) r y] [] := by
  unfold adversary_filterOf at hf
  refine calls_of_W (fn := Tryd.f28) (N := 6) Tryd.func28 rfl Tryd.ntmps28 rfl ?_
  have hs : St ok (bz w0) w0 [vl t_adversary_Rule x1 v2] [] := St.init (All.cons i0 All.nil)
  clear i0
  obtain ⟨cs3, hl4, rfl⟩ := hs.aggv (n := 2) 0 rfl rfl rfl
  refine W.seqK fun K6 hK6 => ?_
  refine W.region ?_
  refine WL.box (vs := cs3) hs rfl rfl (fun g7 w hs => ?_)
  refine WL.box (vs := [.int .i64 x5]) hs rfl rfl (fun g8 w hs => ?_)
  refine WL.assign (v := .nilFunc) rfl ?_
  refine WL.nil ?_
  refine hK6 _ _ ?_
  refine W.seqK fun K9 hK9 => ?_
  refine W.region ?_
  refine WL.makeFunc (vs := [.pointer (some ⟨g7, 0, none⟩), .pointer (some ⟨g8, 0, none⟩)]) ⟨rfl, ⟨rfl, trivial⟩⟩ ?_
  refine WL.assign (v := .func (.func 42) #[] #[.pointer (some ⟨g7, 0, none⟩), .pointer (some ⟨g8, 0, none⟩)]) rfl ?_
  refine WL.nil ?_
  refine hK9 _ _ ?_
  refine W.ret ?_
  have hr := Option.some.inj hf; subst hr
  have hs := hs.freezeB (A := t_adversary_Rule) (x := x1) 1 rfl fun ok hA => (R_agg (hA.get 0 rfl) rfl)
  have hs := hs.freezeB (A := tInt .i64) (x := x5) 0 rfl fun ok hA => rfl
  have hs := hs.add (it := vl (tFunT Tryd.prog (argK1 (tSlice t_network_Packet)) (tSlice t_network_Packet)) (fun p : (List network_Packet) => adversary_filterOf_1 p x1 x5) (.func (.func 42) #[] #[.pointer (some ⟨g7, 0, none⟩), .pointer (some ⟨g8, 0, none⟩)])) fun ok hA => tFunT_V.2 ⟨42, _, rfl, FN42, fun ok' w' hm p r vs hF har => by
    obtain ⟨u1, rfl, h1⟩ := har
    obtain ⟨a0, c0, e0, _⟩ := tSlice_V.1 h1
    subst e0
    exact (adversary_filterOf_1.calls (x1 := p) (x4 := x1) (x6 := x5) hF h1 ((hA.get 1 rfl).move hm) ((hA.get 0 rfl).move hm)).mono (by rintro e w2 ⟨v, h1, y, h2, h3⟩; exact ⟨v, h1, _, h2, h3⟩)⟩
  exact ⟨_, resOk_one rfl rfl, (.func (.func 42) #[] #[.pointer (some ⟨g7, 0, none⟩), .pointer (some ⟨g8, 0, none⟩)]), rfl, (hs.mask []).pick [0]⟩
theorem adversary_narrow.calls {ok : Nat → Prop} {w0 : World} {x1 : List network_Packet} {x4 : List ((List network_Packet) → Option (List network_Packet))} {a2 : Option Addr} {c3 : Nat} {a5 : Option Addr} {c6 : Nat} {r : List network_Packet} (hf : adversary_narrow x1 x4 = some r) (i0 : (vl (tSlice t_network_Packet) x1 (.slice a2 x1.length c3)).holds ok w0) (i1 : (vl (tSlice (tFunT Tryd.prog (argK1 (tSlice t_network_Packet)) (tSlice t_network_Packet))) x4 (.slice a5 x4.length c6)).holds ok w0) :
    Calls Tryd.prog 29 #[.slice a2 x1.length c3, .slice a5 x4.length c6] w0 fun e w' => ∃ v, e = .returned v ∧ ∃ y : (Option Addr × Nat), v = .slice y.1 r.length y.2 ∧ St ok (bz w0) w' [vl (tSlice t_network_Packet) r (.slice y.1 r.length y.2)] [] := by
  unfold adversary_narrow at hf
  refine calls_of_W (fn := Tryd.f29) (N := 18) Tryd.func29 rfl Tryd.ntmps29 rfl ?_
  have hs : St ok (bz w0) w0 [vl (tSlice t_network_Packet) x1 (.slice a2 x1.length c3), vl (tSlice (tFunT Tryd.prog (argK1 (tSlice t_network_Packet)) (tSlice t_network_Packet))) x4 (.slice a5 x4.length c6)] [] := St.init (All.cons i0 (All.cons i1 All.nil))
  clear i0 i1
  refine W.seqK fun K7 hK7 => ?_
  refine W.region ?_
  refine WL.assign (v := .slice none 0 0) rfl ?_
  refine WL.nil ?_
  refine hK7 _ _ ?_
  refine W.seqK fun K8 hK8 => ?_
  have Jk13 : ∀ (x10 : List network_Packet) (a11 : Option Addr) (c12 : Nat) (ρ : Env) (w : World), ρ 0 = .slice a11 x10.length c12 → St ok (bz w0) w [vl (tSlice t_network_Packet) x10 (.slice a11 x10.length c12)] [] → adversary_narrow.j1 x10 = some r → K8 ρ w := by
    intro x10 a11 c12 ρ w h9_0 hs hf
    refine hK8 _ _ ?_
    unfold adversary_narrow.j1 at hf
    refine W.seqK fun K14 hK14 => ?_
    refine W.region ?_
    refine WL.move (v := .slice a11 x10.length c12) h9_0 ?_
    refine WL.assign (v := .slice a11 x10.length c12) rfl ?_
    refine WL.nil ?_
    refine hK14 _ _ ?_
    refine W.ret ?_
    have hr := Option.some.inj hf; subst hr
    exact ⟨_, resOk_one rfl rfl, (a11, c12), rfl, (hs.mask []).pick [0]⟩
  refine W.seqK fun K15 hK15 => ?_
  refine W.region ?_
  refine WL.move (v := .slice a5 x4.length c6) rfl ?_
  refine WL.len (v := .slice a5 x4.length c6) rfl (len_slice UN73) ?_
  refine WL.move (v := .int .i64 0) rfl ?_
  refine WL.nil ?_
  refine hK15 _ _ ?_
  refine W.block ?_
  obtain ⟨bs21, hbs21, hfs21⟩ := bindE hf
  refine W.loop hbs21 (fun s ρ w => match s with | (x17, x20) => ∃ (a18 : Option Addr), ∃ (c19 : Nat), ρ 0 = .slice a18 x17.length c19 ∧ ρ 7 = .slice a5 x4.length c6 ∧ ρ 8 = .int .i64 (x4.length : Int) ∧ ρ 9 = .int .i64 x20 ∧ St ok (bz w0) w [vl (tSlice t_network_Packet) x17 (.slice a18 x17.length c19), vl (tSlice (tFunT Tryd.prog (argK1 (tSlice t_network_Packet)) (tSlice t_network_Packet))) x4 (.slice a5 x4.length c6)] []) ⟨a2, c3, rfl, rfl, rfl, rfl, (hs.mask []).pick [0, 1]⟩ ?_
  intro s ρ w os21 hI hf hbbs21
  obtain ⟨x17, x20⟩ := s
  obtain ⟨a18, c19, h16_0, h16_7, h16_8, h16_9, hs⟩ := hI
  unfold adversary_narrow.l1 at hf
  refine W.seqK fun K22 hK22 => ?_
  refine W.region ?_
  refine WL.bin (v := .bool (decide (x20 < (x4.length : Int)))) h16_9 h16_8 (ib_lss _ _ _) ?_
  refine WL.nil ?_
  refine hK22 _ _ ?_
  refine W.seqK fun K23 hK23 => ?_
  rcases iteE hf with ⟨hc24, hf⟩ | ⟨hc24, hf⟩
  {
  refine W.cond_true (bool_tr rfl hc24) ?_
  refine W.skip ?_
  refine hK23 _ _ ?_
  refine W.seqK fun K25 hK25 => ?_
  refine W.block ?_
  refine W.seqK fun K26 hK26 => ?_
  refine W.region ?_
  obtain ⟨x27, hxx27, hf⟩ := bindE hf
  refine WL.indexAddr hs 1 rfl UN73 TI75 h16_7 h16_9 hxx27 (fun ad28 hs => ?_)
  refine WL.loadP hs 0 rfl TI75 (.inr rfl) rfl (fun v29 hs => ?_)
  refine WL.assign (v := v29) rfl ?_
  refine WL.nil ?_
  refine hK26 _ _ ?_
  refine W.region ?_
  refine WL.move (v := v29) rfl ?_
  refine WL.move (v := .slice a18 x17.length c19) h16_0 ?_
  obtain ⟨x30, hxx30, hf⟩ := bindE hf
  refine WL.callFT (x := x17) (vs := [.slice a18 x17.length c19]) hs 0 rfl rfl ⟨rfl, trivial⟩ (fun ok hA => ⟨_, rfl, hA.get 2 rfl⟩) hxx30 (fun v33 w hs => ?_)
  obtain ⟨a31, c32, rfl⟩ := hs.slice 0 rfl
  refine WL.assign (v := .slice a31 x30.length c32) rfl ?_
  refine WL.nil ?_
  refine hK25 _ _ ?_
  refine W.region ?_
  obtain ⟨x34, ex34, hf⟩ := letE hf
  refine WL.bin (v := .int .i64 x34) h16_9 rfl (ib_as ex34 (ib_add _ _ _)) ?_
  refine WL.move (v := .int .i64 x34) rfl ?_
  refine WL.nil ?_
  exact ⟨_, (Option.some.inj hf).symm, a31, c32, rfl, h16_7, h16_8, rfl, (hs.mask []).pick [0, 4]⟩ }
  {
  refine W.cond_false (bool_tr rfl hc24) ?_
  refine W.exit ?_
  have hr := Option.some.inj hf; subst hr
  have hr := hbbs21 _ rfl; subst hr
  have hf := hfs21
  exact Jk13 x17 a18 c19 _ _ h16_0 ((hs.mask []).pick [0]) hf }
theorem adversary_Choose.calls {ok : Nat → Prop} {w0 : World} {x1 : List adversary_Rule} {x4 : network_Network} {x8 : Int} {a2 : Option Addr} {c3 : Nat} {v5 : Value} {r : Int × Bool} (hf : adversary_Choose x1 x4 x8 = some r) (i0 : (vl (tSlice t_adversary_Rule) x1 (.slice a2 x1.length c3)).holds ok w0) (i1 : (vl t_network_Network x4 v5).holds ok w0) :
    Calls Tryd.prog 14 #[.slice a2 x1.length c3, v5, .int .i64 x8] w0 fun e w' => ∃ v, e = .returned v ∧ ∃ y : Unit, v = .tuple #[.int .i64 r.1, .bool r.2] ∧ St ok (bz w0) w' [] [] := by
  unfold adversary_Choose at hf
  refine calls_of_W (fn := Tryd.f14) (N := 63) Tryd.func14 rfl Tryd.ntmps14 rfl ?_
  have hs : St ok (bz w0) w0 [vl (tSlice t_adversary_Rule) x1 (.slice a2 x1.length c3), vl t_network_Network x4 v5] [] := St.init (All.cons i0 (All.cons i1 All.nil))
  clear i0 i1
  obtain ⟨cs6, hl7, rfl⟩ := hs.aggv (n := 3) 1 rfl rfl rfl
  refine W.seqK fun K9 hK9 => ?_
  refine W.region ?_
  refine WL.box (vs := cs6) hs rfl rfl (fun g10 w hs => ?_)
  refine WL.assign (v := .int .i64 0) rfl ?_
  refine WL.assign (v := .bool false) rfl ?_
  refine WL.nil ?_
  refine hK9 _ _ ?_
  refine W.seqK fun K11 hK11 => ?_
  refine W.region ?_
  refine WL.assign (v := .slice none 0 0) rfl ?_
  refine WL.nil ?_
  refine hK11 _ _ ?_
  refine W.seqK fun K12 hK12 => ?_
  have hs := hs.ownNil t_network_Packet 69
  have Jk18 : ∀ (x14 : List network_Packet) (a15 : Option Addr) (c16 : Nat) (n17 : Nat) (ρ : Env) (w : World), ρ 0 = .slice a2 x1.length c3 → ρ 2 = .int .i64 x8 → ρ 8 = .slice a15 n17 c16 → St ok (bz w0) w [vl (tSlice t_adversary_Rule) x1 (.slice a2 x1.length c3)] [own t_network_Packet 69 (.slice a15 n17 c16) x14] → adversary_Choose.j3 x1 x8 x14 = some r → K12 ρ w := by
    intro x14 a15 c16 n17 ρ w h13_0 h13_2 h13_8 hs hf
    refine hK12 _ _ ?_
    unfold adversary_Choose.j3 at hf
    refine W.seqK fun K19 hK19 => ?_
    refine W.seqK fun K20 hK20 => ?_
    have Jk23 : ∀ (x22 : Bool) (ρ : Env) (w : World), ρ 0 = .slice a2 x1.length c3 → ρ 2 = .int .i64 x8 → ρ 8 = .slice a15 n17 c16 → ρ 43 = .bool x22 → St ok (bz w0) w [vl (tSlice t_adversary_Rule) x1 (.slice a2 x1.length c3)] [own t_network_Packet 69 (.slice a15 n17 c16) x14] → adversary_Choose.j2 x1 x8 x14 x22 = some r → K20 ρ w := by
      intro x22 ρ w h21_0 h21_2 h21_8 h21_43 hs hf
      refine hK20 _ _ ?_
      unfold adversary_Choose.j2 at hf
      rcases iteE hf with ⟨hc24, hf⟩ | ⟨hc24, hf⟩
      {
      refine W.cond_true (bool_tr h21_43 hc24) ?_
      refine W.seqK fun K25 hK25 => ?_
      refine W.region ?_
      refine WL.assign (v := .int .i64 0) rfl ?_
      refine WL.assign (v := .bool false) rfl ?_
      refine WL.nil ?_
      refine hK25 _ _ ?_
      refine W.ret ?_
      have hr := Option.some.inj hf; subst hr
      exact ⟨_, resOk_two rfl rfl rfl, (), rfl, (hs.mask []).pick []⟩ }
      {
      refine W.cond_false (bool_tr h21_43 hc24) ?_
      refine W.skip ?_
      refine hK19 _ _ ?_
      refine W.seqK fun K26 hK26 => ?_
      refine W.region ?_
      refine WL.assign (v := .slice none 0 0) rfl ?_
      refine WL.nil ?_
      refine hK26 _ _ ?_
      refine W.seqK fun K27 hK27 => ?_
      have hs := hs.ownNil (tFunT Tryd.prog (argK1 (tSlice t_network_Packet)) (tSlice t_network_Packet)) 75
      have Jk33 : ∀ (x29 : List ((List network_Packet) → Option (List network_Packet))) (a30 : Option Addr) (c31 : Nat) (n32 : Nat) (ρ : Env) (w : World), ρ 8 = .slice a15 n17 c16 → ρ 13 = .slice a30 n32 c31 → St ok (bz w0) w [] [own (tFunT Tryd.prog (argK1 (tSlice t_network_Packet)) (tSlice t_network_Packet)) 75 (.slice a30 n32 c31) x29, own t_network_Packet 69 (.slice a15 n17 c16) x14] → adversary_Choose.j1 x14 x29 = some r → K27 ρ w := by
        intro x29 a30 c31 n32 ρ w h28_8 h28_13 hs hf
        refine hK27 _ _ ?_
        unfold adversary_Choose.j1 at hf
        refine W.seqK fun K34 hK34 => ?_
        refine W.region ?_
        refine WL.move (v := .slice a15 n17 c16) h28_8 ?_
        refine WL.move (v := .slice a30 n32 c31) h28_13 ?_
        obtain rfl := hs.ownLen 1 rfl
        have hs := hs.freezeOwn 1 rfl
        obtain rfl := hs.ownLen 0 rfl
        have hs := hs.freezeOwn 0 rfl
        obtain ⟨x35, hxx35, hf⟩ := bindE hf
        refine WL.call (vs := [.slice a15 x14.length c16, .slice a30 x29.length c31]) hs FN29 ⟨rfl, ⟨rfl, trivial⟩⟩ (fun ok hA => adversary_narrow.calls (x1 := x14) (x4 := x29) hxx35 (hA.get 1 rfl) (hA.get 0 rfl)) ?_
        rintro ⟨a36, c37⟩ w hs
        obtain ⟨x38, hxx38, hf⟩ := bindE hf
        refine WL.indexAddr hs 0 rfl UN36 TI69 rfl rfl hxx38 (fun ad39 hs => ?_)
        refine WL.fieldAddrP (z := x38.ID) F_network_Packet_ID hs 0 rfl rfl FA69_0 rfl (fun ad40 hs => ?_)
        refine WL.loadP hs 0 rfl TI3 (.inr rfl) rfl (fun v41 hs => ?_)
        obtain rfl := hs.int 0 rfl
        refine WL.assign (v := .int .i64 x38.ID) rfl ?_
        refine WL.assign (v := .bool true) rfl ?_
        refine WL.nil ?_
        refine hK34 _ _ ?_
        refine W.ret ?_
        have hr := Option.some.inj hf; subst hr
        exact ⟨_, resOk_two rfl rfl rfl, (), rfl, (hs.mask []).pick []⟩
      refine W.seqK fun K42 hK42 => ?_
      refine W.region ?_
      refine WL.move (v := .slice a2 x1.length c3) h21_0 ?_
      refine WL.len (v := .slice a2 x1.length c3) rfl (len_slice UN24) ?_
      refine WL.move (v := .int .i64 0) rfl ?_
      refine WL.nil ?_
      refine hK42 _ _ ?_
      refine W.block ?_
      obtain ⟨bs49, hbs49, hfs49⟩ := bindE hf
      refine W.loop hbs49 (fun s ρ w => match s with | (x44, x48) => ∃ (a45 : Option Addr), ∃ (c46 : Nat), ∃ (n47 : Nat), ρ 2 = .int .i64 x8 ∧ ρ 8 = .slice a15 n17 c16 ∧ ρ 13 = .slice a45 n47 c46 ∧ ρ 44 = .slice a2 x1.length c3 ∧ ρ 45 = .int .i64 (x1.length : Int) ∧ ρ 46 = .int .i64 x48 ∧ St ok (bz w0) w [vl (tSlice t_adversary_Rule) x1 (.slice a2 x1.length c3)] [own (tFunT Tryd.prog (argK1 (tSlice t_network_Packet)) (tSlice t_network_Packet)) 75 (.slice a45 n47 c46) x44, own t_network_Packet 69 (.slice a15 n17 c16) x14]) ⟨none, 0, 0, h21_2, h21_8, rfl, rfl, rfl, rfl, (hs.mask [true, true]).pick [0]⟩ ?_
      intro s ρ w os49 hI hf hbbs49
      obtain ⟨x44, x48⟩ := s
      obtain ⟨a45, c46, n47, h43_2, h43_8, h43_13, h43_44, h43_45, h43_46, hs⟩ := hI
      unfold adversary_Choose.l1 at hf
      refine W.seqK fun K50 hK50 => ?_
      refine W.region ?_
      refine WL.bin (v := .bool (decide (x48 < (x1.length : Int)))) h43_46 h43_45 (ib_lss _ _ _) ?_
      refine WL.nil ?_
      refine hK50 _ _ ?_
      refine W.seqK fun K51 hK51 => ?_
      rcases iteE hf with ⟨hc52, hf⟩ | ⟨hc52, hf⟩
      {
      refine W.cond_true (bool_tr rfl hc52) ?_
      refine W.skip ?_
      refine hK51 _ _ ?_
      refine W.seqK fun K53 hK53 => ?_
      refine W.block ?_
      refine W.seqK fun K54 hK54 => ?_
      refine W.region ?_
      obtain ⟨x55, hxx55, hf⟩ := bindE hf
      refine WL.indexAddr hs 0 rfl UN24 TI32 h43_44 h43_46 hxx55 (fun ad56 hs => ?_)
      refine WL.loadP hs 0 rfl TI32 (.inl rfl) rfl (fun v57 hs => ?_)
      obtain ⟨cs58, hl59, rfl⟩ := hs.aggv (n := 2) 0 rfl rfl rfl
      refine WL.alloc hs ZV32 (fun g60 w hs => ?_)
      refine WL.storeAll (vs := cs58) hs 0 rfl TI32 rfl rfl rfl hl59 (hs.ones 0 rfl rfl) rfl (fun w hs => ?_)
      refine WL.nil ?_
      refine hK54 _ _ ?_
      refine W.region ?_
      refine WL.move (v := .slice a45 n47 c46) h43_13 ?_
      refine WL.loadAll hs 0 rfl TI32 rfl hl59 ?_
      refine WL.move (v := .int .i64 x8) h43_2 ?_
      obtain ⟨x61, hxx61, hf⟩ := bindE hf
      refine WL.call (vs := [.agg cs58.toArray, .int .i64 x8]) hs FN28 ⟨rfl, ⟨rfl, trivial⟩⟩ (fun ok hA => adversary_filterOf.calls (x1 := x55) (x5 := x8) hxx61 (hA.get 0 rfl)) ?_
      rintro v62 w hs
      obtain ⟨g63, c64, rfl⟩ := hs.funT 0 rfl
      refine WL.buildSlice (n := 1) (vs := [(0, (.func (.func g63) #[] c64))]) (cs := [(.func (.func g63) #[] c64)]) hs ⟨⟨rfl, rfl⟩, trivial⟩ (bls PS73 (by decide) rfl) (fun g65 w hs => ?_)
      obtain ⟨x66, hxx66, hf⟩ := bindE hf
      obtain ⟨hbx66, hex66⟩ := appE hxx66
      refine WL.append (ys := [x61]) (zs := x66) hs 2 rfl 0 rfl UN73 EI75 rfl rfl (fun ok hA => (Cells.one (T := tFunT Tryd.prog (argK1 (tSlice t_network_Packet)) (tSlice t_network_Packet)) (R_fun (hA.get 0 rfl)))) hbx66 (by omega) hex66 (fun v67 w hs => ?_)
      obtain ⟨a68, n70, c69, rfl⟩ := hs.ownv3 2 rfl
      refine WL.assign (v := .slice a68 n70 c69) rfl ?_
      refine WL.nil ?_
      refine hK53 _ _ ?_
      refine W.region ?_
      obtain ⟨x71, ex71, hf⟩ := letE hf
      refine WL.bin (v := .int .i64 x71) h43_46 rfl (ib_as ex71 (ib_add _ _ _)) ?_
      refine WL.move (v := .int .i64 x71) rfl ?_
      refine WL.nil ?_
      exact ⟨_, (Option.some.inj hf).symm, a68, c69, n70, h43_2, h43_8, rfl, h43_44, h43_45, rfl, (hs.mask [false, false, true, true]).pick [3]⟩ }
      {
      refine W.cond_false (bool_tr rfl hc52) ?_
      refine W.exit ?_
      have hr := Option.some.inj hf; subst hr
      have hr := hbbs49 _ rfl; subst hr
      have hf := hfs49
      exact Jk33 x44 a45 c46 n47 _ _ h43_8 h43_13 ((hs.mask [true, true]).pick []) hf } }
    refine W.region ?_
    refine WL.move (v := .slice a15 n17 c16) h13_8 ?_
    refine WL.len (v := .slice a15 n17 c16) rfl (len_own hs 0 rfl UN36) ?_
    refine WL.bin (v := .bool ((x14.length : Int) == 0)) rfl rfl (ib_eql _ _ _) ?_
    refine WL.move (v := .bool ((x14.length : Int) == 0)) rfl ?_
    rcases iteE hf with ⟨hc73, hf⟩ | ⟨hc73, hf⟩
    {
    refine WL.pass ((wanted_of rfl rfl (bool_tr rfl hc73)).trans rfl) rfl ?_
    refine WL.pass ((wanted_of rfl rfl (bool_tr rfl hc73)).trans rfl) rfl ?_
    refine WL.pass ((wanted_of rfl rfl (bool_tr rfl hc73)).trans rfl) rfl ?_
    refine WL.pickT (v := .bool true) (bool_tr rfl hc73) rfl ?_
    refine WL.nil ?_
    exact Jk23 true _ _ h13_0 h13_2 h13_8 rfl ((hs.mask [true]).pick [0]) hf }
    {
    refine WL.move (v := .slice a2 x1.length c3) h13_0 ?_ (hg := (wanted_of rfl rfl (bool_tr rfl hc73)).trans rfl)
    obtain ⟨x74, hxx74, hf⟩ := bindE hf
    refine WL.call (vs := [.slice a2 x1.length c3]) hs FN17 ⟨rfl, trivial⟩ (fun ok hA => adversary_Validate.calls (x1 := x1) hxx74 (hA.get 0 rfl)) ?_ (hg := (wanted_of rfl rfl (bool_tr rfl hc73)).trans rfl)
    rintro _ w hs
    refine WL.bin (v := .bool (x74 != 0)) rfl rfl (ib_neq _ _ _) ?_ (hg := (wanted_of rfl rfl (bool_tr rfl hc73)).trans rfl)
    refine WL.pickF (v := .bool (x74 != 0)) (bool_tr rfl hc73) rfl ?_
    refine WL.nil ?_
    exact Jk23 (x74 != 0) _ _ h13_0 h13_2 h13_8 rfl ((hs.mask [true]).pick [0]) hf }
  refine W.seqK fun K75 hK75 => ?_
  refine W.region ?_
  refine WL.loadAll hs 1 rfl TI39 rfl hl7 ?_
  obtain ⟨x76, hxx76, hf⟩ := bindE hf
  refine WL.call (vs := [.agg cs6.toArray]) hs FN26 ⟨rfl, trivial⟩ (fun ok hA => network_Deliverable.calls (x1 := x4) hxx76 (hA.get 1 rfl)) ?_
  rintro ⟨a77, n78, c79⟩ w hs
  refine WL.len (v := .slice a77 n78 c79) rfl (len_own hs 0 rfl UN22) ?_
  refine WL.move (v := .int .i64 0) rfl ?_
  refine WL.nil ?_
  refine hK75 _ _ ?_
  refine W.block ?_
  obtain ⟨bs86, hbs86, hfs86⟩ := bindE hf
  refine W.loop hbs86 (fun s ρ w => match s with | (x81, x85) => ∃ (a82 : Option Addr), ∃ (c83 : Nat), ∃ (n84 : Nat), ρ 0 = .slice a2 x1.length c3 ∧ ρ 2 = .int .i64 x8 ∧ ρ 4 = .pointer (some ⟨g10, 0, none⟩) ∧ ρ 8 = .slice a82 n84 c83 ∧ ρ 17 = .slice a77 n78 c79 ∧ ρ 18 = .int .i64 (x76.length : Int) ∧ ρ 19 = .int .i64 x85 ∧ St ok (bz w0) w [vl (tSlice t_adversary_Rule) x1 (.slice a2 x1.length c3), vl t_network_Network x4 (.agg cs6.toArray)] [own (tInt .i64) 3 (.slice a77 n78 c79) x76, own t_network_Packet 69 (.slice a82 n84 c83) x81, blk g10 39 cs6]) ⟨none, 0, 0, rfl, rfl, rfl, rfl, rfl, rfl, rfl, (hs.mask [true, true, true]).pick [0, 1]⟩ ?_
  intro s ρ w os86 hI hf hbbs86
  obtain ⟨x81, x85⟩ := s
  obtain ⟨a82, c83, n84, h80_0, h80_2, h80_4, h80_8, h80_17, h80_18, h80_19, hs⟩ := hI
  unfold adversary_Choose.l2 at hf
  refine W.seqK fun K87 hK87 => ?_
  refine W.region ?_
  refine WL.bin (v := .bool (decide (x85 < (x76.length : Int)))) h80_19 h80_18 (ib_lss _ _ _) ?_
  refine WL.nil ?_
  refine hK87 _ _ ?_
  refine W.seqK fun K88 hK88 => ?_
  rcases iteE hf with ⟨hc89, hf⟩ | ⟨hc89, hf⟩
  {
  refine W.cond_true (bool_tr rfl hc89) ?_
  refine W.skip ?_
  refine hK88 _ _ ?_
  refine W.seqK fun K90 hK90 => ?_
  refine W.block ?_
  refine W.seqK fun K91 hK91 => ?_
  refine W.region ?_
  obtain ⟨x92, hxx92, hf⟩ := bindE hf
  refine WL.indexAddrO hs 0 rfl UN22 TI3 h80_17 h80_19 hxx92 (fun ad93 hatad93 => ?_)
  refine WL.loadO hs 0 rfl TI3 (.inr rfl) hatad93 hxx92 rfl (fun v94 hs => ?_)
  obtain rfl := hs.int 0 rfl
  refine WL.assign (v := .int .i64 x92) rfl ?_
  refine WL.nil ?_
  refine hK91 _ _ ?_
  refine W.seqK fun K95 hK95 => ?_
  refine W.region ?_
  refine WL.loadAll hs 2 rfl TI39 h80_4 hl7 ?_
  refine WL.move (v := .int .i64 x92) rfl ?_
  obtain ⟨⟨x96, x97⟩, hxx96, hf⟩ := bindE hf
  refine WL.call (vs := [.agg cs6.toArray, .int .i64 x92]) hs FN27 ⟨rfl, ⟨rfl, trivial⟩⟩ (fun ok hA => network_Find.calls (x1 := x4) (x5 := x92) hxx96 (hA.get 2 rfl)) ?_
  rintro cs98 w hs
  have hl99 := hs.agglen (n := 18) 0 rfl rfl rfl
  refine WL.move (v := .tuple #[.agg cs98.toArray, .bool x97]) rfl ?_
  refine WL.extract (v := .agg cs98.toArray) rfl rfl ?_
  refine WL.extract (v := .bool x97) rfl rfl ?_
  refine WL.alloc hs ZV53 (fun g100 w hs => ?_)
  refine WL.storeAll (vs := cs98) hs 0 rfl TI53 rfl rfl rfl hl99 (hs.ones 0 rfl rfl) rfl (fun w hs => ?_)
  refine WL.assign (v := .bool x97) rfl ?_
  refine WL.nil ?_
  refine hK95 _ _ ?_
  refine W.region ?_
  refine WL.move (v := .slice a82 n84 c83) h80_8 ?_
  refine WL.move (v := .int .i64 x92) rfl ?_
  refine WL.loadAll hs 0 rfl TI53 rfl hl99 ?_
  refine WL.build (vs := [(0, .int .i64 x92), (1, .agg cs98.toArray)]) (cs := ([.int .i64 x92] : List Value) ++ cs98) ⟨⟨rfl, rfl⟩, ⟨⟨rfl, rfl⟩, trivial⟩⟩ (bld PL69 (by simp [fillL, Value.cells, hl99])) ?_
  refine WL.buildSlice (n := 1) (vs := [(0, .agg (([.int .i64 x92] : List Value) ++ cs98 : List Value).toArray)]) (cs := ([.int .i64 x92] : List Value) ++ cs98) hs ⟨⟨rfl, rfl⟩, trivial⟩ (bls PS36 (by decide) (by simp [fillS, fillL, Value.cells, hl99])) (fun g101 w hs => ?_)
  obtain ⟨x102, hxx102, hf⟩ := bindE hf
  obtain ⟨hbx102, hex102⟩ := appE hxx102
  refine WL.append (ys := [(⟨x92, x96⟩ : network_Packet)]) (zs := x102) hs 3 rfl 0 rfl UN36 EI69 rfl rfl (fun ok hA => (Cells.one (T := t_network_Packet) (show t_network_Packet.R ok _ (⟨x92, x96⟩ : network_Packet) _ from ⟨[.int .i64 x92], cs98, by simp, rfl, (R_agg (hA.get 0 rfl) rfl)⟩))) hbx102 (by omega) hex102 (fun v103 w hs => ?_)
  obtain ⟨a104, n106, c105, rfl⟩ := hs.ownv3 3 rfl
  refine WL.assign (v := .slice a104 n106 c105) rfl ?_
  refine WL.nil ?_
  refine hK90 _ _ ?_
  refine W.region ?_
  obtain ⟨x107, ex107, hf⟩ := letE hf
  refine WL.bin (v := .int .i64 x107) h80_19 rfl (ib_as ex107 (ib_add _ _ _)) ?_
  refine WL.move (v := .int .i64 x107) rfl ?_
  refine WL.nil ?_
  exact ⟨_, (Option.some.inj hf).symm, a104, c105, n106, h80_0, h80_2, h80_4, rfl, h80_17, h80_18, rfl, (hs.mask [false, false, true, true, true]).pick [2, 3]⟩ }
  {
  refine W.cond_false (bool_tr rfl hc89) ?_
  refine W.exit ?_
  have hr := Option.some.inj hf; subst hr
  have hr := hbbs86 _ rfl; subst hr
  have hf := hfs86
  exact Jk18 x81 a82 c83 n84 _ _ h80_0 h80_2 h80_8 ((hs.mask [false, true]).pick [0]) hf }
end Go.Proofs.YthcohhpmpdijoaaDoor
set_option linter.unusedVariables false
set_option linter.unusedSimpArgs false
namespace Go.Proofs.YthcohhpmpdijoaaDoor
open Go Go.RowKit Go.Proofs.YthcohhpmpdijoaaDoorL
set_option maxRecDepth 100000
set_option maxHeartbeats 4000000
theorem network_remove.calls {ok : Nat → Prop} {w0 : World} {x1 : network_Network} {x5 : Int} {v2 : Value} {r : network_Network} (hf : network_remove x1 x5 = some r) (i0 : (vl t_network_Network x1 v2).holds ok w0) :
    Calls Tryd.prog 44 #[v2, .int .i64 x5] w0 fun e w' => ∃ v, e = .returned v ∧ ∃ y : List Value, v = .agg y.toArray ∧ St ok (bz w0) w' [vl t_network_Network r (.agg y.toArray)] [] := by
  unfold network_remove at hf
  refine calls_of_W (fn := Tryd.f44) (N := 20) Tryd.func44 rfl Tryd.ntmps44 rfl ?_
  have hs : St ok (bz w0) w0 [vl t_network_Network x1 v2] [] := St.init (All.cons i0 All.nil)
  clear i0
  obtain ⟨cs3, hl4, rfl⟩ := hs.aggv (n := 3) 0 rfl rfl rfl
  refine W.seqK fun K6 hK6 => ?_
  refine W.region ?_
  obtain ⟨a8, c9, a10, c11, rfl⟩ := open_network_Network hs 0 rfl
  have hs := hs.add (it := vl (tSlice t_network_Packet) x1.Packets (.slice a8 (x1.Packets).length c9)) fun ok hA => V_fld F_network_Network_Packets (hA.get 0 rfl) rfl rfl rfl
  have hs := hs.add (it := vl (tSlice t_network_Side) x1.Sides (.slice a10 (x1.Sides).length c11)) fun ok hA => V_fld F_network_Network_Sides (hA.get 1 rfl) rfl rfl rfl
  refine WL.box (vs := [.int .i64 x1.Next, .slice a8 (x1.Packets).length c9, .slice a10 (x1.Sides).length c11]) hs rfl rfl (fun g7 w hs => ?_)
  refine WL.alloc hs ZV39 (fun g12 w hs => ?_)
  refine WL.nil ?_
  refine hK6 _ _ ?_
  refine W.seqK fun K13 hK13 => ?_
  refine W.region ?_
  refine WL.loadN (vs := [.int .i64 x1.Next, .slice a8 (x1.Packets).length c9, .slice a10 (x1.Sides).length c11]) hs 1 rfl TI39 rfl rfl rfl ?_
  have hs := hs.add (it := vl t_network_Network (⟨x1.Next, x1.Packets, x1.Sides⟩ : network_Network) (.agg [.int .i64 x1.Next, .slice a8 (x1.Packets).length c9, .slice a10 (x1.Sides).length c11].toArray)) fun ok hA => V_agg (show t_network_Network.R ok _ _ _ from ⟨[.int .i64 x1.Next], [.slice a8 (x1.Packets).length c9, .slice a10 (x1.Sides).length c11], rfl, rfl, ⟨[.slice a8 (x1.Packets).length c9], [.slice a10 (x1.Sides).length c11], rfl, (R_one (hA.get 1 rfl)), (R_one (hA.get 0 rfl))⟩⟩) rfl
  obtain ⟨x14, hxx14, hf⟩ := bindE hf
  refine WL.call (vs := [.agg ([.int .i64 x1.Next, .slice a8 (x1.Packets).length c9, .slice a10 (x1.Sides).length c11] : List Value).toArray]) hs FN25 ⟨rfl, trivial⟩ (fun ok hA => network_clone.calls (x1 := (⟨x1.Next, x1.Packets, x1.Sides⟩ : network_Network)) hxx14 (hA.get 0 rfl)) ?_
  rintro ⟨⟨a15, n16, c17⟩, ⟨a18, n19, c20⟩⟩ w hs
  refine WL.storeAll (vs := [.int .i64 x14.Next, .slice a15 n16 c17, .slice a18 n19 c20]) hs 3 rfl TI39 rfl rfl rfl rfl (ones_of rfl) rfl (fun w hs => ?_)
  refine WL.nil ?_
  refine hK13 _ _ ?_
  refine W.seqK fun K21 hK21 => ?_
  obtain rfl := hs.ownLen 0 rfl
  have hs := hs.freezeOwn 0 rfl
  obtain rfl := hs.ownLen 0 rfl
  have hs := hs.freezeOwn 0 rfl
  obtain ⟨x22, hxx22, hf⟩ := bindE hf
  obtain ⟨x24, ex24, hf⟩ := letE hf
  obtain ⟨x25, hxx25, hf⟩ := bindE hf
  refine W.any (by kernel_rfl) 10 3 [true, true, true, true, true, true, true, true, true, true, false, false, false] rfl rfl (poAt [pv (.pointer (some ⟨g7, 1, none⟩)), pv (.slice a15 (x14.Packets).length c17), pv (.int .i64 x5), pv (.int .i64 x5), pq (fun y : Option Addr => .slice y x22.length x22.length) (fun v => [vl (tSlice t_network_Packet) x22 v]) (fun v => []), pv (.pointer (some ⟨g7, 1, none⟩)), pv (.slice a15 (x14.Packets).length c17), pv (.int .i64 x5), pv (.int .i64 x24), pq (fun y : (Option Addr × Nat) => .slice y.1 x25.length y.2) (fun v => [vl (tSlice t_network_Packet) x25 v]) (fun v => [])]) (Λ := [blk g12 39 [.int .i64 0, .slice none 0 0, .slice none 0 0], blk g7 39 [.int .i64 x14.Next, .slice a15 (x14.Packets).length c17, .slice a18 (x14.Sides).length c20]]) hs (by kernel_rfl) (by kernel_rfl) (by kernel_rfl) ⟨⟨⟨⟨⟨⟨⟨⟨⟨⟨trivial, ?_⟩, ?_⟩, ?_⟩, ?_⟩, ?_⟩, ?_⟩, ?_⟩, ?_⟩, ?_⟩, ?_⟩ ?_
  {
  intro ρ w Γx Λx hs hu hp
  refine WL.fieldAddr (m := 1) (hu 2 rfl) FA39_1 rfl ?_
  exact WL.nil ⟨rfl, _, rfl, rfl, hs.cutG 0 0⟩ }
  {
  intro ρ w Γx Λx hs hu hp
  have e28 : ρ 7 = .pointer (some ⟨g7, 1, none⟩) := (hp 0 rfl).1
  refine WL.load1 (v := .slice a15 (x14.Packets).length c17) hs (Λx.length + 1) (getApp rfl) TI36 e28 rfl ?_
  exact WL.nil ⟨rfl, _, rfl, rfl, hs.cutG 0 0⟩ }
  {
  intro ρ w Γx Λx hs hu hp
  refine WL.move (v := .int .i64 x5) (hu 1 rfl) ?_
  exact WL.nil ⟨rfl, _, rfl, rfl, hs.cutG 0 0⟩ }
  {
  intro ρ w Γx Λx hs hu hp
  refine WL.move (v := .int .i64 x5) (hu 1 rfl) ?_
  exact WL.nil ⟨rfl, _, rfl, rfl, hs.cutG 0 0⟩ }
  {
  intro ρ w Γx Λx hs hu hp
  have e29 : ρ 8 = .slice a15 (x14.Packets).length c17 := (hp 1 rfl).1
  have e30 : ρ 9 = .int .i64 x5 := (hp 2 rfl).1
  have e31 : ρ 10 = .int .i64 x5 := (hp 3 rfl).1
  refine WL.slice_hm hs (Γx.length + 1) (getApp rfl) UN36 TI69 e29 e30 e31 rfl hxx22 (fun a23 hs => ?_)
  have hs := hs.add (it := vl (tSlice t_network_Packet) x22 (.slice a23 x22.length x22.length)) fun ok hA => hA.get 0 rfl
  exact WL.nil ⟨rfl, _, rfl, ⟨a23, rfl⟩, hs.cutG 1 1⟩ }
  {
  intro ρ w Γx Λx hs hu hp
  refine WL.fieldAddr (m := 1) (hu 2 rfl) FA39_1 rfl ?_
  exact WL.nil ⟨rfl, _, rfl, rfl, hs.cutG 0 0⟩ }
  {
  intro ρ w Γx Λx hs hu hp
  have e32 : ρ 12 = .pointer (some ⟨g7, 1, none⟩) := (hp 5 rfl).1
  refine WL.load1 (v := .slice a15 (x14.Packets).length c17) hs (Λx.length + 1) (getApp rfl) TI36 e32 rfl ?_
  exact WL.nil ⟨rfl, _, rfl, rfl, hs.cutG 0 0⟩ }
  {
  intro ρ w Γx Λx hs hu hp
  refine WL.move (v := .int .i64 x5) (hu 1 rfl) ?_
  exact WL.nil ⟨rfl, _, rfl, rfl, hs.cutG 0 0⟩ }
  {
  intro ρ w Γx Λx hs hu hp
  have e33 : ρ 14 = .int .i64 x5 := (hp 7 rfl).1
  refine WL.bin (v := .int .i64 x24) e33 rfl (ib_as ex24 (ib_add _ _ _)) ?_
  exact WL.nil ⟨rfl, _, rfl, rfl, hs.cutG 0 0⟩ }
  {
  intro ρ w Γx Λx hs hu hp
  have e34 : ρ 13 = .slice a15 (x14.Packets).length c17 := (hp 6 rfl).1
  have e35 : ρ 15 = .int .i64 x24 := (hp 8 rfl).1
  refine WL.slice_l hs (Γx.length + 1) (getApp rfl) UN36 TI69 e34 e35 hxx25 (fun a26 c27 hs => ?_)
  have hs := hs.add (it := vl (tSlice t_network_Packet) x25 (.slice a26 x25.length c27)) fun ok hA => hA.get 0 rfl
  exact WL.nil ⟨rfl, _, rfl, ⟨(a26, c27), rfl⟩, hs.cutG 1 1⟩ }
  {
  intro ρ w hs hu36 hp
  obtain ⟨⟨⟨⟨⟨⟨⟨⟨⟨⟨_, hp0_⟩, hp1_⟩, hp2_⟩, hp3_⟩, hp4_⟩, hp5_⟩, hp6_⟩, hp7_⟩, hp8_⟩, hp9_⟩ := hp
  have hs : St ok (bz w0) w [vl (tSlice t_network_Packet) x25 (ρ 16), vl (tSlice t_network_Packet) x22 (ρ 11), vl (tSlice t_network_Side) x14.Sides (.slice a18 (x14.Sides).length c20), vl (tSlice t_network_Packet) x14.Packets (.slice a15 (x14.Packets).length c17), vl t_network_Network (⟨x1.Next, x1.Packets, x1.Sides⟩ : network_Network) (.agg [.int .i64 x1.Next, .slice a8 (x1.Packets).length c9, .slice a10 (x1.Sides).length c11].toArray), vl (tSlice t_network_Side) x1.Sides (.slice a10 (x1.Sides).length c11), vl (tSlice t_network_Packet) x1.Packets (.slice a8 (x1.Packets).length c9), vl t_network_Network x1 (.agg [.int .i64 x1.Next, .slice a8 (x1.Packets).length c9, .slice a10 (x1.Sides).length c11].toArray)] [blk g12 39 [.int .i64 0, .slice none 0 0, .slice none 0 0], blk g7 39 [.int .i64 x14.Next, .slice a15 (x14.Packets).length c17, .slice a18 (x14.Sides).length c20]] := hs
  obtain ⟨⟨a37, c38⟩, e39⟩ := hp9_
  have e39 : ρ 16 = .slice a37 x25.length c38 := e39
  try rw [e39] at hs
  have e40 : ρ 15 = .int .i64 x24 := hp8_
  have e41 : ρ 14 = .int .i64 x5 := hp7_
  have e42 : ρ 13 = .slice a15 (x14.Packets).length c17 := hp6_
  have e43 : ρ 12 = .pointer (some ⟨g7, 1, none⟩) := hp5_
  obtain ⟨a44, e45⟩ := hp4_
  have e45 : ρ 11 = .slice a44 x22.length x22.length := e45
  try rw [e45] at hs
  have e46 : ρ 10 = .int .i64 x5 := hp3_
  have e47 : ρ 9 = .int .i64 x5 := hp2_
  have e48 : ρ 8 = .slice a15 (x14.Packets).length c17 := hp1_
  have e49 : ρ 7 = .pointer (some ⟨g7, 1, none⟩) := hp0_
  refine WA.step [10] (by kernel_rfl) (by simp) ⟨?_, trivial⟩
  obtain ⟨x50, hxx50, hf⟩ := bindE hf
  obtain ⟨hbx50, hex50⟩ := appE hxx50
  refine WL.appendFS (zs := x50) hs 1 rfl 0 rfl UN36 UN36 EI69 e45 e39 hbx50 (by omega) hex50 (fun a51 c52 w hs => ?_)
  refine WL.nil ⟨rfl, _, rfl, ?_⟩
  refine WA.step [11] (by kernel_rfl) (by simp) ⟨?_, trivial⟩
  refine WL.fieldAddr (m := 1) (hu36 2 rfl) FA39_1 rfl ?_
  refine WL.nil ⟨rfl, _, rfl, ?_⟩
  refine WA.step [12] (by kernel_rfl) (by simp) ⟨?_, trivial⟩
  refine WL.store (vs := [.slice a51 x50.length c52]) (cs' := [.int .i64 x14.Next, .slice a51 x50.length c52, .slice a18 (x14.Sides).length c20]) hs 1 rfl TI36 rfl rfl rfl rfl (ones_of rfl) (Nat.le_of_ble_eq_true rfl) rfl (fun w hs => ?_)
  refine WL.nil ⟨rfl, _, rfl, ?_⟩
  refine WA.done (by kernel_rfl) ?_
  refine hK21 _ _ ?_
  refine W.seqK fun K53 hK53 => ?_
  refine W.region ?_
  refine WL.loadN (vs := [.int .i64 x14.Next, .slice a51 x50.length c52, .slice a18 (x14.Sides).length c20]) hs 1 rfl TI39 (hu36 2 rfl) rfl rfl ?_
  refine WL.storeAll (vs := [.int .i64 x14.Next, .slice a51 x50.length c52, .slice a18 (x14.Sides).length c20]) hs 0 rfl TI39 (hu36 4 rfl) rfl rfl rfl (ones_of rfl) rfl (fun w hs => ?_)
  refine WL.nil ?_
  refine hK53 _ _ ?_
  refine W.ret ?_
  have hr := Option.some.inj hf; subst hr
  have hs := hs.add (it := vl t_network_Network (⟨x14.Next, x50, x14.Sides⟩ : network_Network) (.agg [.int .i64 x14.Next, .slice a51 x50.length c52, .slice a18 (x14.Sides).length c20].toArray)) fun ok hA => V_agg (show t_network_Network.R ok _ _ _ from ⟨[.int .i64 x14.Next], [.slice a51 x50.length c52, .slice a18 (x14.Sides).length c20], rfl, rfl, ⟨[.slice a51 x50.length c52], [.slice a18 (x14.Sides).length c20], rfl, (R_one (hA.get 0 rfl)), (R_one (hA.get 3 rfl))⟩⟩) rfl
  exact ⟨_, resOk_one rfl (res_all hs 0 rfl TI39 (hu36 4 rfl) rfl), [.int .i64 x14.Next, .slice a51 x50.length c52, .slice a18 (x14.Sides).length c20], rfl, (hs.mask []).pick [0]⟩ }
theorem network_Deliver.calls {ok : Nat → Prop} {w0 : World} {x1 : network_Network} {x5 : Int} {v2 : Value} {r : network_Network × api_Message × Bool} (hf : network_Deliver x1 x5 = some r) (i0 : (vl t_network_Network x1 v2).holds ok w0) :
    Calls Tryd.prog 30 #[v2, .int .i64 x5] w0 fun e w' => ∃ v, e = .returned v ∧ ∃ y : (List Value) × (List Value), v = .tuple #[.agg y.1.toArray, .agg y.2.toArray, .bool r.2.2] ∧ St ok (bz w0) w' [vl t_network_Network r.1 (.agg y.1.toArray), vl t_api_Message r.2.1 (.agg y.2.toArray)] [] := by
  unfold network_Deliver at hf
  refine calls_of_W (fn := Tryd.f30) (N := 47) Tryd.func30 rfl Tryd.ntmps30 rfl ?_
  have hs : St ok (bz w0) w0 [vl t_network_Network x1 v2] [] := St.init (All.cons i0 All.nil)
  clear i0
  obtain ⟨cs3, hl4, rfl⟩ := hs.aggv (n := 3) 0 rfl rfl rfl
  refine W.seqK fun K6 hK6 => ?_
  refine W.region ?_
  refine WL.box (vs := cs3) hs rfl rfl (fun g7 w hs => ?_)
  refine WL.alloc hs ZV39 (fun g8 w hs => ?_)
  refine WL.alloc hs ZV53 (fun g9 w hs => ?_)
  refine WL.assign (v := .bool false) rfl ?_
  refine WL.nil ?_
  refine hK6 _ _ ?_
  refine W.seqK fun K10 hK10 => ?_
  refine W.region ?_
  refine WL.loadAll hs 2 rfl TI39 rfl hl4 ?_
  refine WL.move (v := .int .i64 x5) rfl ?_
  obtain ⟨⟨x11, x12⟩, hxx11, hf⟩ := bindE hf
  refine WL.call (vs := [.agg cs3.toArray, .int .i64 x5]) hs FN41 ⟨rfl, ⟨rfl, trivial⟩⟩ (fun ok hA => network_position.calls (x1 := x1) (x5 := x5) hxx11 (hA.get 0 rfl)) ?_
  rintro _ w hs
  refine WL.move (v := .tuple #[.int .i64 x11, .bool x12]) rfl ?_
  refine WL.extract (v := .int .i64 x11) rfl rfl ?_
  refine WL.extract (v := .bool x12) rfl rfl ?_
  refine WL.assign (v := .int .i64 x11) rfl ?_
  refine WL.assign (v := .bool x12) rfl ?_
  refine WL.nil ?_
  refine hK10 _ _ ?_
  refine W.seqK fun K13 hK13 => ?_
  refine W.seqK fun K14 hK14 => ?_
  have Jk17 : ∀ (x16 : Bool) (ρ : Env) (w : World), ρ 2 = .pointer (some ⟨g7, 0, none⟩) → ρ 4 = .pointer (some ⟨g8, 0, none⟩) → ρ 5 = .pointer (some ⟨g9, 0, none⟩) → ρ 7 = .int .i64 x11 → ρ 34 = .bool x16 → St ok (bz w0) w [vl t_network_Network x1 (.agg cs3.toArray)] [blk g9 53 [.int .i64 0, .int .i64 0, .int .i64 0, .int .i64 0, .int .i64 0, .int .i64 0, .int .i64 0, .slice none 0 0, .slice none 0 0, .slice none 0 0, .slice none 0 0, .bool false, .slice none 0 0, .slice none 0 0, .slice none 0 0, .slice none 0 0, .slice none 0 0, .bool false], blk g8 39 [.int .i64 0, .slice none 0 0, .slice none 0 0], blk g7 39 cs3] → network_Deliver.j1 x1 x11 x16 = some r → K14 ρ w := by
    intro x16 ρ w h15_2 h15_4 h15_5 h15_7 h15_34 hs hf
    refine hK14 _ _ ?_
    unfold network_Deliver.j1 at hf
    rcases iteE hf with ⟨hc18, hf⟩ | ⟨hc18, hf⟩
    {
    refine W.cond_true (bool_tr h15_34 hc18) ?_
    refine W.seqK fun K19 hK19 => ?_
    refine W.region ?_
    refine WL.loadAll hs 2 rfl TI39 h15_2 hl4 ?_
    obtain ⟨x20, hxx20, hf⟩ := bindE hf
    refine WL.call (vs := [.agg cs3.toArray]) hs FN25 ⟨rfl, trivial⟩ (fun ok hA => network_clone.calls (x1 := x1) hxx20 (hA.get 0 rfl)) ?_
    rintro ⟨⟨a21, n22, c23⟩, ⟨a24, n25, c26⟩⟩ w hs
    refine WL.build (vs := []) (cs := [.int .i64 0, .int .i64 0, .int .i64 0, .int .i64 0, .int .i64 0, .int .i64 0, .int .i64 0, .slice none 0 0, .slice none 0 0, .slice none 0 0, .slice none 0 0, .bool false, .slice none 0 0, .slice none 0 0, .slice none 0 0, .slice none 0 0, .slice none 0 0, .bool false]) trivial (bld PL53 (by kernel_rfl)) ?_
    refine WL.storeAll (vs := [.int .i64 x20.Next, .slice a21 n22 c23, .slice a24 n25 c26]) hs 3 rfl TI39 h15_4 rfl rfl rfl (ones_of rfl) rfl (fun w hs => ?_)
    refine WL.storeAll (vs := [.int .i64 0, .int .i64 0, .int .i64 0, .int .i64 0, .int .i64 0, .int .i64 0, .int .i64 0, .slice none 0 0, .slice none 0 0, .slice none 0 0, .slice none 0 0, .bool false, .slice none 0 0, .slice none 0 0, .slice none 0 0, .slice none 0 0, .slice none 0 0, .bool false]) hs 2 rfl TI53 h15_5 rfl rfl rfl (ones_of rfl) rfl (fun w hs => ?_)
    refine WL.assign (v := .bool false) rfl ?_
    refine WL.nil ?_
    refine hK19 _ _ ?_
    refine W.ret ?_
    have hr := Option.some.inj hf; subst hr
    obtain rfl := hs.ownLen 0 rfl
    have hs := hs.freezeOwn 0 rfl
    obtain rfl := hs.ownLen 0 rfl
    have hs := hs.freezeOwn 0 rfl
    have hs := hs.add (it := vl t_network_Network (⟨x20.Next, x20.Packets, x20.Sides⟩ : network_Network) (.agg [.int .i64 x20.Next, .slice a21 (x20.Packets).length c23, .slice a24 (x20.Sides).length c26].toArray)) fun ok hA => V_agg (show t_network_Network.R ok _ _ _ from ⟨[.int .i64 x20.Next], [.slice a21 (x20.Packets).length c23, .slice a24 (x20.Sides).length c26], rfl, rfl, ⟨[.slice a21 (x20.Packets).length c23], [.slice a24 (x20.Sides).length c26], rfl, (R_one (hA.get 1 rfl)), (R_one (hA.get 0 rfl))⟩⟩) rfl
    have hs := hs.add (it := vl t_api_Message (⟨0, 0, 0, (⟨0, 0⟩ : api_AccessID), 0, 0, (⟨[], []⟩ : api_Certificate), (⟨[], []⟩ : api_Certificate), false, (⟨[], []⟩ : api_Certificate), [], [], [], false⟩ : api_Message) (.agg [.int .i64 0, .int .i64 0, .int .i64 0, .int .i64 0, .int .i64 0, .int .i64 0, .int .i64 0, .slice none 0 0, .slice none 0 0, .slice none 0 0, .slice none 0 0, .bool false, .slice none 0 0, .slice none 0 0, .slice none 0 0, .slice none 0 0, .slice none 0 0, .bool false].toArray)) fun ok hA => V_agg (show t_api_Message.R ok _ _ _ from ⟨[.int .i64 0], [.int .i64 0, .int .i64 0, .int .i64 0, .int .i64 0, .int .i64 0, .int .i64 0, .slice none 0 0, .slice none 0 0, .slice none 0 0, .slice none 0 0, .bool false, .slice none 0 0, .slice none 0 0, .slice none 0 0, .slice none 0 0, .slice none 0 0, .bool false], rfl, rfl, ⟨[.int .i64 0], [.int .i64 0, .int .i64 0, .int .i64 0, .int .i64 0, .int .i64 0, .slice none 0 0, .slice none 0 0, .slice none 0 0, .slice none 0 0, .bool false, .slice none 0 0, .slice none 0 0, .slice none 0 0, .slice none 0 0, .slice none 0 0, .bool false], rfl, rfl, ⟨[.int .i64 0], [.int .i64 0, .int .i64 0, .int .i64 0, .int .i64 0, .slice none 0 0, .slice none 0 0, .slice none 0 0, .slice none 0 0, .bool false, .slice none 0 0, .slice none 0 0, .slice none 0 0, .slice none 0 0, .slice none 0 0, .bool false], rfl, rfl, ⟨[.int .i64 0, .int .i64 0], [.int .i64 0, .int .i64 0, .slice none 0 0, .slice none 0 0, .slice none 0 0, .slice none 0 0, .bool false, .slice none 0 0, .slice none 0 0, .slice none 0 0, .slice none 0 0, .slice none 0 0, .bool false], rfl, ⟨[.int .i64 0], [.int .i64 0], rfl, rfl, rfl⟩, ⟨[.int .i64 0], [.int .i64 0, .slice none 0 0, .slice none 0 0, .slice none 0 0, .slice none 0 0, .bool false, .slice none 0 0, .slice none 0 0, .slice none 0 0, .slice none 0 0, .slice none 0 0, .bool false], rfl, rfl, ⟨[.int .i64 0], [.slice none 0 0, .slice none 0 0, .slice none 0 0, .slice none 0 0, .bool false, .slice none 0 0, .slice none 0 0, .slice none 0 0, .slice none 0 0, .slice none 0 0, .bool false], rfl, rfl, ⟨[.slice none 0 0, .slice none 0 0], [.slice none 0 0, .slice none 0 0, .bool false, .slice none 0 0, .slice none 0 0, .slice none 0 0, .slice none 0 0, .slice none 0 0, .bool false], rfl, ⟨[.slice none 0 0], [.slice none 0 0], rfl, R_nil, R_nil⟩, ⟨[.slice none 0 0, .slice none 0 0], [.bool false, .slice none 0 0, .slice none 0 0, .slice none 0 0, .slice none 0 0, .slice none 0 0, .bool false], rfl, ⟨[.slice none 0 0], [.slice none 0 0], rfl, R_nil, R_nil⟩, ⟨[.bool false], [.slice none 0 0, .slice none 0 0, .slice none 0 0, .slice none 0 0, .slice none 0 0, .bool false], rfl, rfl, ⟨[.slice none 0 0, .slice none 0 0], [.slice none 0 0, .slice none 0 0, .slice none 0 0, .bool false], rfl, ⟨[.slice none 0 0], [.slice none 0 0], rfl, R_nil, R_nil⟩, ⟨[.slice none 0 0], [.slice none 0 0, .slice none 0 0, .bool false], rfl, R_nil, ⟨[.slice none 0 0], [.slice none 0 0, .bool false], rfl, R_nil, ⟨[.slice none 0 0], [.bool false], rfl, R_nil, rfl⟩⟩⟩⟩⟩⟩⟩⟩⟩⟩⟩⟩⟩) rfl
    exact ⟨_, resOk_three rfl (res_all hs 1 rfl TI39 h15_4 rfl) (res_all hs 0 rfl TI53 h15_5 rfl) rfl, ([.int .i64 x20.Next, .slice a21 (x20.Packets).length c23, .slice a24 (x20.Sides).length c26], [.int .i64 0, .int .i64 0, .int .i64 0, .int .i64 0, .int .i64 0, .int .i64 0, .int .i64 0, .slice none 0 0, .slice none 0 0, .slice none 0 0, .slice none 0 0, .bool false, .slice none 0 0, .slice none 0 0, .slice none 0 0, .slice none 0 0, .slice none 0 0, .bool false]), rfl, (hs.mask []).pick [1, 0]⟩ }
    {
    refine W.cond_false (bool_tr h15_34 hc18) ?_
    refine W.skip ?_
    refine hK13 _ _ ?_
    refine W.seqK fun K27 hK27 => ?_
    obtain ⟨x28, hxx28, hf⟩ := bindE hf
    obtain ⟨x34, hxx34, hf⟩ := bindE hf
    have hs := hs.front 1 rfl
    refine W.any (by kernel_rfl) 10 2 [true, true, true, true, true, true, true, true, true, true, false, false] rfl rfl (poAt [pv (.agg cs3.toArray), pv (.int .i64 x11), pq (fun y : List Value => .agg y.toArray) (fun v => [vl t_network_Network x28 v]) (fun v => []), pv (.pointer (some ⟨g7, 1, none⟩)), pq (fun y : (Option Addr × Nat) => .slice y.1 (x1.Packets).length y.2) (fun v => [vl (tSlice t_network_Packet) x1.Packets v]) (fun v => []), pv (.int .i64 x11), pq (fun y : Addr => .pointer (some y)) (fun v => [pl t_network_Packet x34 (adOf v)]) (fun v => []), pq (fun y : Addr => .pointer (some y)) (fun v => [pl t_api_Message x34.Message (adOf v)]) (fun v => []), pq (fun y : List Value => .agg y.toArray) (fun v => [vl t_api_Message x34.Message v]) (fun v => []), pw (blk g8 39 [.int .i64 0, .slice none 0 0, .slice none 0 0]) (tbx t_network_Network x28 g8 39)]) (Λ := [blk g9 53 [.int .i64 0, .int .i64 0, .int .i64 0, .int .i64 0, .int .i64 0, .int .i64 0, .int .i64 0, .slice none 0 0, .slice none 0 0, .slice none 0 0, .slice none 0 0, .bool false, .slice none 0 0, .slice none 0 0, .slice none 0 0, .slice none 0 0, .slice none 0 0, .bool false], blk g7 39 cs3]) hs (by kernel_rfl) (by kernel_rfl) (by kernel_rfl) ⟨⟨⟨⟨⟨⟨⟨⟨⟨⟨trivial, ?_⟩, ?_⟩, ?_⟩, ?_⟩, ?_⟩, ?_⟩, ?_⟩, ?_⟩, ?_⟩, ?_⟩ ?_
    {
    intro ρ w Γx Λx hs hu hp
    refine WL.loadAll hs (Λx.length + 1) (getApp rfl) TI39 ((hu 2 rfl).trans h15_2) hl4 ?_
    exact WL.nil ⟨rfl, _, rfl, rfl, hs.cutG 0 0⟩ }
    {
    intro ρ w Γx Λx hs hu hp
    refine WL.move (v := .int .i64 x11) ((hu 7 rfl).trans h15_7) ?_
    exact WL.nil ⟨rfl, _, rfl, rfl, hs.cutG 0 0⟩ }
    {
    intro ρ w Γx Λx hs hu hp
    have e40 : ρ 38 = .agg cs3.toArray := (hp 0 rfl).1
    have e41 : ρ 39 = .int .i64 x11 := (hp 1 rfl).1
    refine WL.call (vs := [.agg cs3.toArray, .int .i64 x11]) hs FN44 ⟨e40, ⟨e41, trivial⟩⟩ (fun ok hA => network_remove.calls (x1 := x1) (x5 := x11) hxx28 (hA.get (Γx.length + 0) (getApp rfl))) ?_
    rintro cs29 w hs
    have hl30 := hs.agglen (n := 3) 0 rfl rfl rfl
    have hs := hs.add (it := vl t_network_Network x28 (.agg cs29.toArray)) fun ok hA => hA.get 0 rfl
    exact WL.nil ⟨rfl, _, rfl, ⟨cs29, rfl⟩, hs.cutG 1 1⟩ }
    {
    intro ρ w Γx Λx hs hu hp
    refine WL.fieldAddr (m := 1) ((hu 2 rfl).trans h15_2) FA39_1 rfl ?_
    exact WL.nil ⟨rfl, _, rfl, rfl, hs.cutG 0 0⟩ }
    {
    intro ρ w Γx Λx hs hu hp
    have e42 : ρ 41 = .pointer (some ⟨g7, 1, none⟩) := (hp 3 rfl).1
    refine WL.loadF (z := x1.Packets) F_network_Network_Packets hs (Λx.length + 1) (getApp rfl) (Γx.length + 0) (getApp rfl) rfl TI36 (.inr rfl) e42 rfl (fun v31 hs => ?_)
    obtain ⟨a32, c33, rfl⟩ := hs.slice 0 rfl
    have hs := hs.add (it := vl (tSlice t_network_Packet) x1.Packets (.slice a32 (x1.Packets).length c33)) fun ok hA => hA.get 0 rfl
    exact WL.nil ⟨rfl, _, rfl, ⟨(a32, c33), rfl⟩, hs.cutG 1 1⟩ }
    {
    intro ρ w Γx Λx hs hu hp
    refine WL.move (v := .int .i64 x11) ((hu 7 rfl).trans h15_7) ?_
    exact WL.nil ⟨rfl, _, rfl, rfl, hs.cutG 0 0⟩ }
    {
    intro ρ w Γx Λx hs hu hp
    obtain ⟨⟨⟨a43, c44⟩, e45r⟩, hm46⟩ := hp 4 rfl
    have e45 : ρ 42 = .slice a43 (x1.Packets).length c44 := e45r
    rw [e45r] at hm46
    have hs := hs.memo1 (it := vl (tSlice t_network_Packet) x1.Packets (.slice a43 (x1.Packets).length c44)) (List.mem_append.2 (.inl (hm46 _ (List.mem_of_getElem? (i := 0) rfl))))
    have e47 : ρ 43 = .int .i64 x11 := (hp 5 rfl).1
    refine WL.indexAddr hs 0 rfl UN36 TI69 e45 e47 hxx34 (fun ad35 hs => ?_)
    have hs := hs.add (it := pl t_network_Packet x34 ad35) fun ok hA => hA.get 0 rfl
    exact WL.nil ⟨rfl, _, rfl, ⟨ad35, rfl⟩, hs.cutG 1 2⟩ }
    {
    intro ρ w Γx Λx hs hu hp
    obtain ⟨⟨ad48, e49r⟩, hm50⟩ := hp 6 rfl
    have e49 : ρ 44 = .pointer (some ad48) := e49r
    rw [e49r] at hm50
    have hs := hs.memo1 (it := pl t_network_Packet x34 ad48) (List.mem_append.2 (.inl (hm50 _ (List.mem_of_getElem? (i := 0) rfl))))
    refine WL.fieldAddrP (z := x34.Message) F_network_Packet_Message hs 0 rfl e49 FA69_1 rfl (fun ad36 hs => ?_)
    have hs := hs.add (it := pl t_api_Message x34.Message ad36) fun ok hA => hA.get 0 rfl
    exact WL.nil ⟨rfl, _, rfl, ⟨ad36, rfl⟩, hs.cutG 1 2⟩ }
    {
    intro ρ w Γx Λx hs hu hp
    obtain ⟨⟨ad51, e52r⟩, hm53⟩ := hp 7 rfl
    have e52 : ρ 45 = .pointer (some ad51) := e52r
    rw [e52r] at hm53
    have hs := hs.memo1 (it := pl t_api_Message x34.Message ad51) (List.mem_append.2 (.inl (hm53 _ (List.mem_of_getElem? (i := 0) rfl))))
    refine WL.loadP hs 0 rfl TI53 (.inl rfl) e52 (fun v37 hs => ?_)
    obtain ⟨cs38, hl39, rfl⟩ := hs.aggv (n := 18) 0 rfl rfl rfl
    have hs := hs.add (it := vl t_api_Message x34.Message (.agg cs38.toArray)) fun ok hA => hA.get 0 rfl
    exact WL.nil ⟨rfl, _, rfl, ⟨cs38, rfl⟩, hs.cutG 1 2⟩ }
    {
    intro ρ w Γx Λx hs hu hp
    have hs : St ok (bz w0) w (Γx ++ [vl t_network_Network x1 (.agg cs3.toArray)]) (Λx ++ ([blk g8 39 [.int .i64 0, .slice none 0 0, .slice none 0 0]] ++ [blk g9 53 [.int .i64 0, .int .i64 0, .int .i64 0, .int .i64 0, .int .i64 0, .int .i64 0, .int .i64 0, .slice none 0 0, .slice none 0 0, .slice none 0 0, .slice none 0 0, .bool false, .slice none 0 0, .slice none 0 0, .slice none 0 0, .slice none 0 0, .slice none 0 0, .bool false], blk g7 39 cs3])) := hs
    obtain ⟨⟨cs54, e56r⟩, hm57⟩ := hp 2 rfl
    have e56 : ρ 40 = .agg cs54.toArray := e56r
    rw [e56r] at hm57
    have hs := hs.memo1 (it := vl t_network_Network x28 (.agg cs54.toArray)) (List.mem_append.2 (.inl (hm57 _ (List.mem_of_getElem? (i := 0) rfl))))
    have hl55 := hs.agglen (n := 3) 0 rfl rfl rfl
    refine WL.storeAll (vs := cs54) hs (Λx.length + 0) (getApp rfl) TI39 ((hu 4 rfl).trans h15_4) e56 rfl hl55 (hs.ones 0 rfl rfl) rfl (fun w hs => ?_)
    have hs := hs.backP
    have hs := hs.toT (A := t_network_Network) 0 rfl fun ok hA => (R_agg (hA.get 0 rfl) rfl)
    exact WL.nil ⟨rfl, _, rfl, trivial, hs.cutG 0 1⟩ }
    {
    intro ρ w hs hu58 hp
    obtain ⟨⟨⟨⟨⟨⟨⟨⟨⟨⟨_, hp0_⟩, hp1_⟩, hp2_⟩, hp3_⟩, hp4_⟩, hp5_⟩, hp6_⟩, hp7_⟩, hp8_⟩, hp9_⟩ := hp
    have hs : St ok (bz w0) w [vl t_api_Message x34.Message (ρ 46), pl t_api_Message x34.Message (adOf (ρ 45)), pl t_network_Packet x34 (adOf (ρ 44)), vl (tSlice t_network_Packet) x1.Packets (ρ 42), vl t_network_Network x28 (ρ 40), vl t_network_Network x1 (.agg cs3.toArray)] [tbx t_network_Network x28 g8 39, blk g9 53 [.int .i64 0, .int .i64 0, .int .i64 0, .int .i64 0, .int .i64 0, .int .i64 0, .int .i64 0, .slice none 0 0, .slice none 0 0, .slice none 0 0, .slice none 0 0, .bool false, .slice none 0 0, .slice none 0 0, .slice none 0 0, .slice none 0 0, .slice none 0 0, .bool false], blk g7 39 cs3] := hs
    obtain ⟨cs59, e61⟩ := hp8_
    have e61 : ρ 46 = .agg cs59.toArray := e61
    try rw [e61] at hs
    obtain ⟨ad62, e63⟩ := hp7_
    have e63 : ρ 45 = .pointer (some ad62) := e63
    try rw [e63] at hs
    obtain ⟨ad64, e65⟩ := hp6_
    have e65 : ρ 44 = .pointer (some ad64) := e65
    try rw [e65] at hs
    have e66 : ρ 43 = .int .i64 x11 := hp5_
    obtain ⟨⟨a67, c68⟩, e69⟩ := hp4_
    have e69 : ρ 42 = .slice a67 (x1.Packets).length c68 := e69
    try rw [e69] at hs
    have e70 : ρ 41 = .pointer (some ⟨g7, 1, none⟩) := hp3_
    obtain ⟨cs71, e73⟩ := hp2_
    have e73 : ρ 40 = .agg cs71.toArray := e73
    try rw [e73] at hs
    have e74 : ρ 39 = .int .i64 x11 := hp1_
    have e75 : ρ 38 = .agg cs3.toArray := hp0_
    have hl72 := hs.agglen (n := 3) 4 rfl rfl rfl
    have hl60 := hs.agglen (n := 18) 0 rfl rfl rfl
    obtain ⟨cs76, hl77, hs⟩ := hs.ofT (n := 3) 0 rfl rfl rfl
    refine WA.step [10] (by kernel_rfl) (by simp) ⟨?_, trivial⟩
    refine WL.storeAll (vs := cs59) hs 1 rfl TI53 ((hu58 5 rfl).trans h15_5) e61 rfl hl60 (hs.ones 1 rfl rfl) rfl (fun w hs => ?_)
    refine WL.nil ⟨rfl, _, rfl, ?_⟩
    refine WA.step [11] (by kernel_rfl) (by simp) ⟨?_, trivial⟩
    refine WL.assign (v := .bool true) rfl ?_
    refine WL.nil ⟨rfl, _, rfl, ?_⟩
    refine WA.done (by kernel_rfl) ?_
    refine hK27 _ _ ?_
    refine W.ret ?_
    have hr := Option.some.inj hf; subst hr
    exact ⟨_, resOk_three rfl (res_all hs 0 rfl TI39 ((hu58 4 rfl).trans h15_4) hl77) (res_all hs 1 rfl TI53 ((hu58 5 rfl).trans h15_5) hl60) rfl, (cs76, cs59), rfl, (hs.mask []).pick [0, 1]⟩ } }
  rcases iteE hf with ⟨hc78, hf⟩ | ⟨hc78, hf⟩
  {
  refine W.any (by kernel_rfl) 20 0 [true, true, true, true, true, true, true, true, true, true, true, true, true, true, true, true, true, true, true, true] rfl rfl (poAt [pv (.bool x12), pv (.bool (!x12)), pv (.bool (!x12)), pv (undef), pv (undef), pv (undef), pv (undef), pv (undef), pv (undef), pv (undef), pv (undef), pv (undef), pv (undef), pv (undef), pv (undef), pv (undef), pv (undef), pv (undef), pv (undef), pv (.bool true)]) (Λ := [blk g9 53 [.int .i64 0, .int .i64 0, .int .i64 0, .int .i64 0, .int .i64 0, .int .i64 0, .int .i64 0, .slice none 0 0, .slice none 0 0, .slice none 0 0, .slice none 0 0, .bool false, .slice none 0 0, .slice none 0 0, .slice none 0 0, .slice none 0 0, .slice none 0 0, .bool false], blk g8 39 [.int .i64 0, .slice none 0 0, .slice none 0 0], blk g7 39 cs3]) hs (by kernel_rfl) (by kernel_rfl) (by kernel_rfl) ⟨⟨⟨⟨⟨⟨⟨⟨⟨⟨⟨⟨⟨⟨⟨⟨⟨⟨⟨⟨trivial, ?_⟩, ?_⟩, ?_⟩, ?_⟩, ?_⟩, ?_⟩, ?_⟩, ?_⟩, ?_⟩, ?_⟩, ?_⟩, ?_⟩, ?_⟩, ?_⟩, ?_⟩, ?_⟩, ?_⟩, ?_⟩, ?_⟩, ?_⟩ ?_
  {
  intro ρ w Γx Λx hs hu hp
  refine WL.move (v := .bool x12) (hu 8 rfl) ?_
  exact WL.nil ⟨rfl, _, rfl, rfl, hs.cutG 0 0⟩ }
  {
  intro ρ w Γx Λx hs hu hp
  have e79 : ρ 15 = .bool x12 := (hp 0 rfl).1
  refine WL.not e79 ?_
  exact WL.nil ⟨rfl, _, rfl, rfl, hs.cutG 0 0⟩ }
  {
  intro ρ w Γx Λx hs hu hp
  have e80 : ρ 16 = .bool (!x12) := (hp 1 rfl).1
  refine WL.move (v := .bool (!x12)) e80 ?_
  exact WL.nil ⟨rfl, _, rfl, rfl, hs.cutG 0 0⟩ }
  {
  intro ρ w Γx Λx hs hu hp
  have e81 : ρ 17 = .bool (!x12) := (hp 2 rfl).1
  refine WL.pass ((wanted_of rfl rfl (bool_tr e81 hc78)).trans rfl) rfl ?_
  exact WL.nil ⟨rfl, _, rfl, rfl, hs.cutG 0 0⟩ }
  {
  intro ρ w Γx Λx hs hu hp
  have e82 : ρ 17 = .bool (!x12) := (hp 2 rfl).1
  refine WL.pass ((wanted_of rfl rfl (bool_tr e82 hc78)).trans rfl) rfl ?_
  exact WL.nil ⟨rfl, _, rfl, rfl, hs.cutG 0 0⟩ }
  {
  intro ρ w Γx Λx hs hu hp
  have e83 : ρ 19 = undef := (hp 4 rfl).1
  have e84 : ρ 17 = .bool (!x12) := (hp 2 rfl).1
  refine WL.pass ((wanted_of rfl rfl (bool_tr e84 hc78)).trans rfl) rfl ?_
  exact WL.nil ⟨rfl, _, rfl, rfl, hs.cutG 0 0⟩ }
  {
  intro ρ w Γx Λx hs hu hp
  have e85 : ρ 17 = .bool (!x12) := (hp 2 rfl).1
  refine WL.pass ((wanted_of rfl rfl (bool_tr e85 hc78)).trans rfl) rfl ?_
  exact WL.nil ⟨rfl, _, rfl, rfl, hs.cutG 0 0⟩ }
  {
  intro ρ w Γx Λx hs hu hp
  have e86 : ρ 20 = undef := (hp 5 rfl).1
  have e87 : ρ 21 = undef := (hp 6 rfl).1
  have e88 : ρ 17 = .bool (!x12) := (hp 2 rfl).1
  refine WL.pass ((wanted_of rfl rfl (bool_tr e88 hc78)).trans rfl) rfl ?_
  exact WL.nil ⟨rfl, _, rfl, rfl, hs.cutG 0 0⟩ }
  {
  intro ρ w Γx Λx hs hu hp
  have e89 : ρ 22 = undef := (hp 7 rfl).1
  have e90 : ρ 17 = .bool (!x12) := (hp 2 rfl).1
  refine WL.pass ((wanted_of rfl rfl (bool_tr e90 hc78)).trans rfl) rfl ?_
  exact WL.nil ⟨rfl, _, rfl, rfl, hs.cutG 0 0⟩ }
  {
  intro ρ w Γx Λx hs hu hp
  have e91 : ρ 23 = undef := (hp 8 rfl).1
  have e92 : ρ 17 = .bool (!x12) := (hp 2 rfl).1
  refine WL.pass ((wanted_of rfl rfl (bool_tr e92 hc78)).trans rfl) rfl ?_
  exact WL.nil ⟨rfl, _, rfl, rfl, hs.cutG 0 0⟩ }
  {
  intro ρ w Γx Λx hs hu hp
  have e93 : ρ 24 = undef := (hp 9 rfl).1
  have e94 : ρ 17 = .bool (!x12) := (hp 2 rfl).1
  refine WL.pass ((wanted_of rfl rfl (bool_tr e94 hc78)).trans rfl) rfl ?_
  exact WL.nil ⟨rfl, _, rfl, rfl, hs.cutG 0 0⟩ }
  {
  intro ρ w Γx Λx hs hu hp
  have e95 : ρ 17 = .bool (!x12) := (hp 2 rfl).1
  refine WL.pass ((wanted_of rfl rfl (bool_tr e95 hc78)).trans rfl) rfl ?_
  exact WL.nil ⟨rfl, _, rfl, rfl, hs.cutG 0 0⟩ }
  {
  intro ρ w Γx Λx hs hu hp
  have e96 : ρ 26 = undef := (hp 11 rfl).1
  have e97 : ρ 17 = .bool (!x12) := (hp 2 rfl).1
  refine WL.pass ((wanted_of rfl rfl (bool_tr e97 hc78)).trans rfl) rfl ?_
  exact WL.nil ⟨rfl, _, rfl, rfl, hs.cutG 0 0⟩ }
  {
  intro ρ w Γx Λx hs hu hp
  have e98 : ρ 17 = .bool (!x12) := (hp 2 rfl).1
  refine WL.pass ((wanted_of rfl rfl (bool_tr e98 hc78)).trans rfl) rfl ?_
  exact WL.nil ⟨rfl, _, rfl, rfl, hs.cutG 0 0⟩ }
  {
  intro ρ w Γx Λx hs hu hp
  have e99 : ρ 27 = undef := (hp 12 rfl).1
  have e100 : ρ 28 = undef := (hp 13 rfl).1
  have e101 : ρ 17 = .bool (!x12) := (hp 2 rfl).1
  refine WL.pass ((wanted_of rfl rfl (bool_tr e101 hc78)).trans rfl) rfl ?_
  exact WL.nil ⟨rfl, _, rfl, rfl, hs.cutG 0 0⟩ }
  {
  intro ρ w Γx Λx hs hu hp
  have e102 : ρ 29 = undef := (hp 14 rfl).1
  have e103 : ρ 17 = .bool (!x12) := (hp 2 rfl).1
  refine WL.pass ((wanted_of rfl rfl (bool_tr e103 hc78)).trans rfl) rfl ?_
  exact WL.nil ⟨rfl, _, rfl, rfl, hs.cutG 0 0⟩ }
  {
  intro ρ w Γx Λx hs hu hp
  have e104 : ρ 30 = undef := (hp 15 rfl).1
  have e105 : ρ 17 = .bool (!x12) := (hp 2 rfl).1
  refine WL.pass ((wanted_of rfl rfl (bool_tr e105 hc78)).trans rfl) rfl ?_
  exact WL.nil ⟨rfl, _, rfl, rfl, hs.cutG 0 0⟩ }
  {
  intro ρ w Γx Λx hs hu hp
  have e106 : ρ 31 = undef := (hp 16 rfl).1
  have e107 : ρ 17 = .bool (!x12) := (hp 2 rfl).1
  refine WL.pass ((wanted_of rfl rfl (bool_tr e107 hc78)).trans rfl) rfl ?_
  exact WL.nil ⟨rfl, _, rfl, rfl, hs.cutG 0 0⟩ }
  {
  intro ρ w Γx Λx hs hu hp
  have e108 : ρ 18 = undef := (hp 3 rfl).1
  have e109 : ρ 25 = undef := (hp 10 rfl).1
  have e110 : ρ 32 = undef := (hp 17 rfl).1
  have e111 : ρ 17 = .bool (!x12) := (hp 2 rfl).1
  refine WL.pass ((wanted_of rfl rfl (bool_tr e111 hc78)).trans rfl) rfl ?_
  exact WL.nil ⟨rfl, _, rfl, rfl, hs.cutG 0 0⟩ }
  {
  intro ρ w Γx Λx hs hu hp
  have e112 : ρ 17 = .bool (!x12) := (hp 2 rfl).1
  have e113 : ρ 33 = undef := (hp 18 rfl).1
  refine WL.pickT (v := .bool true) (bool_tr e112 hc78) rfl ?_
  exact WL.nil ⟨rfl, _, rfl, rfl, hs.cutG 0 0⟩ }
  {
  intro ρ w hs hu114 hp
  obtain ⟨⟨⟨⟨⟨⟨⟨⟨⟨⟨⟨⟨⟨⟨⟨⟨⟨⟨⟨⟨_, hp0_⟩, hp1_⟩, hp2_⟩, hp3_⟩, hp4_⟩, hp5_⟩, hp6_⟩, hp7_⟩, hp8_⟩, hp9_⟩, hp10_⟩, hp11_⟩, hp12_⟩, hp13_⟩, hp14_⟩, hp15_⟩, hp16_⟩, hp17_⟩, hp18_⟩, hp19_⟩ := hp
  have hs : St ok (bz w0) w [vl t_network_Network x1 (.agg cs3.toArray)] [blk g9 53 [.int .i64 0, .int .i64 0, .int .i64 0, .int .i64 0, .int .i64 0, .int .i64 0, .int .i64 0, .slice none 0 0, .slice none 0 0, .slice none 0 0, .slice none 0 0, .bool false, .slice none 0 0, .slice none 0 0, .slice none 0 0, .slice none 0 0, .slice none 0 0, .bool false], blk g8 39 [.int .i64 0, .slice none 0 0, .slice none 0 0], blk g7 39 cs3] := hs
  have e115 : ρ 34 = .bool true := hp19_
  have e116 : ρ 33 = undef := hp18_
  have e117 : ρ 32 = undef := hp17_
  have e118 : ρ 31 = undef := hp16_
  have e119 : ρ 30 = undef := hp15_
  have e120 : ρ 29 = undef := hp14_
  have e121 : ρ 28 = undef := hp13_
  have e122 : ρ 27 = undef := hp12_
  have e123 : ρ 26 = undef := hp11_
  have e124 : ρ 25 = undef := hp10_
  have e125 : ρ 24 = undef := hp9_
  have e126 : ρ 23 = undef := hp8_
  have e127 : ρ 22 = undef := hp7_
  have e128 : ρ 21 = undef := hp6_
  have e129 : ρ 20 = undef := hp5_
  have e130 : ρ 19 = undef := hp4_
  have e131 : ρ 18 = undef := hp3_
  have e132 : ρ 17 = .bool (!x12) := hp2_
  have e133 : ρ 16 = .bool (!x12) := hp1_
  have e134 : ρ 15 = .bool x12 := hp0_
  refine WA.done (by kernel_rfl) ?_
  exact Jk17 true _ _ (hu114 2 rfl) (hu114 4 rfl) (hu114 5 rfl) (hu114 7 rfl) e115 ((hs.mask [true, true, true]).pick [0]) hf } }
  {
  obtain ⟨x138, hxx138, hf⟩ := bindE hf
  obtain ⟨x146, hxx146, hf⟩ := bindE hf
  obtain ⟨x151, hxx151, hf⟩ := bindE hf
  refine W.any (by kernel_rfl) 20 0 [true, true, true, true, true, true, true, true, true, true, true, true, true, true, true, true, true, true, true, true] rfl rfl (poAt [pv (.bool x12), pv (.bool (!x12)), pv (.bool (!x12)), pv (.agg cs3.toArray), pv (.pointer (some ⟨g7, 1, none⟩)), pq (fun y : (Option Addr × Nat) => .slice y.1 (x1.Packets).length y.2) (fun v => [vl (tSlice t_network_Packet) x1.Packets v]) (fun v => []), pv (.int .i64 x11), pq (fun y : Addr => .pointer (some y)) (fun v => [pl t_network_Packet x138 (adOf v)]) (fun v => []), pq (fun y : Addr => .pointer (some y)) (fun v => [pl t_api_Message x138.Message (adOf v)]) (fun v => []), pq (fun y : Addr => .pointer (some y)) (fun v => [pl (tInt .i64) x138.Message.From (adOf v)]) (fun v => []), pv (.int .i64 x138.Message.From), pv (.pointer (some ⟨g7, 1, none⟩)), pq (fun y : (Option Addr × Nat) => .slice y.1 (x1.Packets).length y.2) (fun v => [vl (tSlice t_network_Packet) x1.Packets v]) (fun v => []), pv (.int .i64 x11), pq (fun y : Addr => .pointer (some y)) (fun v => [pl t_network_Packet x146 (adOf v)]) (fun v => []), pq (fun y : Addr => .pointer (some y)) (fun v => [pl t_api_Message x146.Message (adOf v)]) (fun v => []), pq (fun y : Addr => .pointer (some y)) (fun v => [pl (tInt .i64) x146.Message.To (adOf v)]) (fun v => []), pv (.int .i64 x146.Message.To), pv (.bool x151), pv (.bool x151)]) (Λ := [blk g9 53 [.int .i64 0, .int .i64 0, .int .i64 0, .int .i64 0, .int .i64 0, .int .i64 0, .int .i64 0, .slice none 0 0, .slice none 0 0, .slice none 0 0, .slice none 0 0, .bool false, .slice none 0 0, .slice none 0 0, .slice none 0 0, .slice none 0 0, .slice none 0 0, .bool false], blk g8 39 [.int .i64 0, .slice none 0 0, .slice none 0 0], blk g7 39 cs3]) hs (by kernel_rfl) (by kernel_rfl) (by kernel_rfl) ⟨⟨⟨⟨⟨⟨⟨⟨⟨⟨⟨⟨⟨⟨⟨⟨⟨⟨⟨⟨trivial, ?_⟩, ?_⟩, ?_⟩, ?_⟩, ?_⟩, ?_⟩, ?_⟩, ?_⟩, ?_⟩, ?_⟩, ?_⟩, ?_⟩, ?_⟩, ?_⟩, ?_⟩, ?_⟩, ?_⟩, ?_⟩, ?_⟩, ?_⟩ ?_
  {
  intro ρ w Γx Λx hs hu hp
  refine WL.move (v := .bool x12) (hu 8 rfl) ?_
  exact WL.nil ⟨rfl, _, rfl, rfl, hs.cutG 0 0⟩ }
  {
  intro ρ w Γx Λx hs hu hp
  have e152 : ρ 15 = .bool x12 := (hp 0 rfl).1
  refine WL.not e152 ?_
  exact WL.nil ⟨rfl, _, rfl, rfl, hs.cutG 0 0⟩ }
  {
  intro ρ w Γx Λx hs hu hp
  have e153 : ρ 16 = .bool (!x12) := (hp 1 rfl).1
  refine WL.move (v := .bool (!x12)) e153 ?_
  exact WL.nil ⟨rfl, _, rfl, rfl, hs.cutG 0 0⟩ }
  {
  intro ρ w Γx Λx hs hu hp
  have e154 : ρ 17 = .bool (!x12) := (hp 2 rfl).1
  refine WL.loadAll hs (Λx.length + 2) (getApp rfl) TI39 (hu 2 rfl) hl4 ?_ (hg := (wanted_of rfl rfl (bool_tr e154 hc78)).trans rfl)
  exact WL.nil ⟨rfl, _, rfl, rfl, hs.cutG 0 0⟩ }
  {
  intro ρ w Γx Λx hs hu hp
  have e155 : ρ 17 = .bool (!x12) := (hp 2 rfl).1
  refine WL.fieldAddr (m := 1) (hu 2 rfl) FA39_1 rfl ?_ (hg := (wanted_of rfl rfl (bool_tr e155 hc78)).trans rfl)
  exact WL.nil ⟨rfl, _, rfl, rfl, hs.cutG 0 0⟩ }
  {
  intro ρ w Γx Λx hs hu hp
  have e156 : ρ 19 = .pointer (some ⟨g7, 1, none⟩) := (hp 4 rfl).1
  have e157 : ρ 17 = .bool (!x12) := (hp 2 rfl).1
  refine WL.loadF (z := x1.Packets) F_network_Network_Packets hs (Λx.length + 2) (getApp rfl) (Γx.length + 0) (getApp rfl) rfl TI36 (.inr rfl) e156 rfl (fun v135 hs => ?_) (hg := (wanted_of rfl rfl (bool_tr e157 hc78)).trans rfl)
  obtain ⟨a136, c137, rfl⟩ := hs.slice 0 rfl
  have hs := hs.add (it := vl (tSlice t_network_Packet) x1.Packets (.slice a136 (x1.Packets).length c137)) fun ok hA => hA.get 0 rfl
  exact WL.nil ⟨rfl, _, rfl, ⟨(a136, c137), rfl⟩, hs.cutG 1 1⟩ }
  {
  intro ρ w Γx Λx hs hu hp
  have e158 : ρ 17 = .bool (!x12) := (hp 2 rfl).1
  refine WL.move (v := .int .i64 x11) (hu 7 rfl) ?_ (hg := (wanted_of rfl rfl (bool_tr e158 hc78)).trans rfl)
  exact WL.nil ⟨rfl, _, rfl, rfl, hs.cutG 0 0⟩ }
  {
  intro ρ w Γx Λx hs hu hp
  obtain ⟨⟨⟨a159, c160⟩, e161r⟩, hm162⟩ := hp 5 rfl
  have e161 : ρ 20 = .slice a159 (x1.Packets).length c160 := e161r
  rw [e161r] at hm162
  have hs := hs.memo1 (it := vl (tSlice t_network_Packet) x1.Packets (.slice a159 (x1.Packets).length c160)) (List.mem_append.2 (.inl (hm162 _ (List.mem_of_getElem? (i := 0) rfl))))
  have e163 : ρ 21 = .int .i64 x11 := (hp 6 rfl).1
  have e164 : ρ 17 = .bool (!x12) := (hp 2 rfl).1
  refine WL.indexAddr hs 0 rfl UN36 TI69 e161 e163 hxx138 (fun ad139 hs => ?_) (hg := (wanted_of rfl rfl (bool_tr e164 hc78)).trans rfl)
  have hs := hs.add (it := pl t_network_Packet x138 ad139) fun ok hA => hA.get 0 rfl
  exact WL.nil ⟨rfl, _, rfl, ⟨ad139, rfl⟩, hs.cutG 1 2⟩ }
  {
  intro ρ w Γx Λx hs hu hp
  obtain ⟨⟨ad165, e166r⟩, hm167⟩ := hp 7 rfl
  have e166 : ρ 22 = .pointer (some ad165) := e166r
  rw [e166r] at hm167
  have hs := hs.memo1 (it := pl t_network_Packet x138 ad165) (List.mem_append.2 (.inl (hm167 _ (List.mem_of_getElem? (i := 0) rfl))))
  have e168 : ρ 17 = .bool (!x12) := (hp 2 rfl).1
  refine WL.fieldAddrP (z := x138.Message) F_network_Packet_Message hs 0 rfl e166 FA69_1 rfl (fun ad140 hs => ?_) (hg := (wanted_of rfl rfl (bool_tr e168 hc78)).trans rfl)
  have hs := hs.add (it := pl t_api_Message x138.Message ad140) fun ok hA => hA.get 0 rfl
  exact WL.nil ⟨rfl, _, rfl, ⟨ad140, rfl⟩, hs.cutG 1 2⟩ }
  {
  intro ρ w Γx Λx hs hu hp
  obtain ⟨⟨ad169, e170r⟩, hm171⟩ := hp 8 rfl
  have e170 : ρ 23 = .pointer (some ad169) := e170r
  rw [e170r] at hm171
  have hs := hs.memo1 (it := pl t_api_Message x138.Message ad169) (List.mem_append.2 (.inl (hm171 _ (List.mem_of_getElem? (i := 0) rfl))))
  have e172 : ρ 17 = .bool (!x12) := (hp 2 rfl).1
  refine WL.fieldAddrP (z := x138.Message.From) F_api_Message_From hs 0 rfl e170 FA53_1 rfl (fun ad141 hs => ?_) (hg := (wanted_of rfl rfl (bool_tr e172 hc78)).trans rfl)
  have hs := hs.add (it := pl (tInt .i64) x138.Message.From ad141) fun ok hA => hA.get 0 rfl
  exact WL.nil ⟨rfl, _, rfl, ⟨ad141, rfl⟩, hs.cutG 1 2⟩ }
  {
  intro ρ w Γx Λx hs hu hp
  obtain ⟨⟨ad173, e174r⟩, hm175⟩ := hp 9 rfl
  have e174 : ρ 24 = .pointer (some ad173) := e174r
  rw [e174r] at hm175
  have hs := hs.memo1 (it := pl (tInt .i64) x138.Message.From ad173) (List.mem_append.2 (.inl (hm175 _ (List.mem_of_getElem? (i := 0) rfl))))
  have e176 : ρ 17 = .bool (!x12) := (hp 2 rfl).1
  refine WL.loadP hs 0 rfl TI3 (.inr rfl) e174 (fun v142 hs => ?_) (hg := (wanted_of rfl rfl (bool_tr e176 hc78)).trans rfl)
  obtain rfl := hs.int 0 rfl
  exact WL.nil ⟨rfl, _, rfl, rfl, hs.cutG 0 2⟩ }
  {
  intro ρ w Γx Λx hs hu hp
  have e177 : ρ 17 = .bool (!x12) := (hp 2 rfl).1
  refine WL.fieldAddr (m := 1) (hu 2 rfl) FA39_1 rfl ?_ (hg := (wanted_of rfl rfl (bool_tr e177 hc78)).trans rfl)
  exact WL.nil ⟨rfl, _, rfl, rfl, hs.cutG 0 0⟩ }
  {
  intro ρ w Γx Λx hs hu hp
  have e178 : ρ 26 = .pointer (some ⟨g7, 1, none⟩) := (hp 11 rfl).1
  have e179 : ρ 17 = .bool (!x12) := (hp 2 rfl).1
  refine WL.loadF (z := x1.Packets) F_network_Network_Packets hs (Λx.length + 2) (getApp rfl) (Γx.length + 0) (getApp rfl) rfl TI36 (.inr rfl) e178 rfl (fun v143 hs => ?_) (hg := (wanted_of rfl rfl (bool_tr e179 hc78)).trans rfl)
  obtain ⟨a144, c145, rfl⟩ := hs.slice 0 rfl
  have hs := hs.add (it := vl (tSlice t_network_Packet) x1.Packets (.slice a144 (x1.Packets).length c145)) fun ok hA => hA.get 0 rfl
  exact WL.nil ⟨rfl, _, rfl, ⟨(a144, c145), rfl⟩, hs.cutG 1 1⟩ }
  {
  intro ρ w Γx Λx hs hu hp
  have e180 : ρ 17 = .bool (!x12) := (hp 2 rfl).1
  refine WL.move (v := .int .i64 x11) (hu 7 rfl) ?_ (hg := (wanted_of rfl rfl (bool_tr e180 hc78)).trans rfl)
  exact WL.nil ⟨rfl, _, rfl, rfl, hs.cutG 0 0⟩ }
  {
  intro ρ w Γx Λx hs hu hp
  obtain ⟨⟨⟨a181, c182⟩, e183r⟩, hm184⟩ := hp 12 rfl
  have e183 : ρ 27 = .slice a181 (x1.Packets).length c182 := e183r
  rw [e183r] at hm184
  have hs := hs.memo1 (it := vl (tSlice t_network_Packet) x1.Packets (.slice a181 (x1.Packets).length c182)) (List.mem_append.2 (.inl (hm184 _ (List.mem_of_getElem? (i := 0) rfl))))
  have e185 : ρ 28 = .int .i64 x11 := (hp 13 rfl).1
  have e186 : ρ 17 = .bool (!x12) := (hp 2 rfl).1
  refine WL.indexAddr hs 0 rfl UN36 TI69 e183 e185 hxx146 (fun ad147 hs => ?_) (hg := (wanted_of rfl rfl (bool_tr e186 hc78)).trans rfl)
  have hs := hs.add (it := pl t_network_Packet x146 ad147) fun ok hA => hA.get 0 rfl
  exact WL.nil ⟨rfl, _, rfl, ⟨ad147, rfl⟩, hs.cutG 1 2⟩ }
  {
  intro ρ w Γx Λx hs hu hp
  obtain ⟨⟨ad187, e188r⟩, hm189⟩ := hp 14 rfl
  have e188 : ρ 29 = .pointer (some ad187) := e188r
  rw [e188r] at hm189
  have hs := hs.memo1 (it := pl t_network_Packet x146 ad187) (List.mem_append.2 (.inl (hm189 _ (List.mem_of_getElem? (i := 0) rfl))))
  have e190 : ρ 17 = .bool (!x12) := (hp 2 rfl).1
  refine WL.fieldAddrP (z := x146.Message) F_network_Packet_Message hs 0 rfl e188 FA69_1 rfl (fun ad148 hs => ?_) (hg := (wanted_of rfl rfl (bool_tr e190 hc78)).trans rfl)
  have hs := hs.add (it := pl t_api_Message x146.Message ad148) fun ok hA => hA.get 0 rfl
  exact WL.nil ⟨rfl, _, rfl, ⟨ad148, rfl⟩, hs.cutG 1 2⟩ }
  {
  intro ρ w Γx Λx hs hu hp
  obtain ⟨⟨ad191, e192r⟩, hm193⟩ := hp 15 rfl
  have e192 : ρ 30 = .pointer (some ad191) := e192r
  rw [e192r] at hm193
  have hs := hs.memo1 (it := pl t_api_Message x146.Message ad191) (List.mem_append.2 (.inl (hm193 _ (List.mem_of_getElem? (i := 0) rfl))))
  have e194 : ρ 17 = .bool (!x12) := (hp 2 rfl).1
  refine WL.fieldAddrP (z := x146.Message.To) F_api_Message_To hs 0 rfl e192 FA53_2 rfl (fun ad149 hs => ?_) (hg := (wanted_of rfl rfl (bool_tr e194 hc78)).trans rfl)
  have hs := hs.add (it := pl (tInt .i64) x146.Message.To ad149) fun ok hA => hA.get 0 rfl
  exact WL.nil ⟨rfl, _, rfl, ⟨ad149, rfl⟩, hs.cutG 1 2⟩ }
  {
  intro ρ w Γx Λx hs hu hp
  obtain ⟨⟨ad195, e196r⟩, hm197⟩ := hp 16 rfl
  have e196 : ρ 31 = .pointer (some ad195) := e196r
  rw [e196r] at hm197
  have hs := hs.memo1 (it := pl (tInt .i64) x146.Message.To ad195) (List.mem_append.2 (.inl (hm197 _ (List.mem_of_getElem? (i := 0) rfl))))
  have e198 : ρ 17 = .bool (!x12) := (hp 2 rfl).1
  refine WL.loadP hs 0 rfl TI3 (.inr rfl) e196 (fun v150 hs => ?_) (hg := (wanted_of rfl rfl (bool_tr e198 hc78)).trans rfl)
  obtain rfl := hs.int 0 rfl
  exact WL.nil ⟨rfl, _, rfl, rfl, hs.cutG 0 2⟩ }
  {
  intro ρ w Γx Λx hs hu hp
  have e199 : ρ 18 = .agg cs3.toArray := (hp 3 rfl).1
  have e200 : ρ 25 = .int .i64 x138.Message.From := (hp 10 rfl).1
  have e201 : ρ 32 = .int .i64 x146.Message.To := (hp 17 rfl).1
  have e202 : ρ 17 = .bool (!x12) := (hp 2 rfl).1
  refine WL.call (vs := [.agg cs3.toArray, .int .i64 x138.Message.From, .int .i64 x146.Message.To]) hs FN40 ⟨e199, ⟨e200, ⟨e201, trivial⟩⟩⟩ (fun ok hA => network_Blocked.calls (x1 := x1) (x5 := x138.Message.From) (x6 := x146.Message.To) hxx151 (hA.get (Γx.length + 0) (getApp rfl))) ?_ (hg := (wanted_of rfl rfl (bool_tr e202 hc78)).trans rfl)
  rintro _ w hs
  exact WL.nil ⟨rfl, _, rfl, rfl, hs.cutG 0 0⟩ }
  {
  intro ρ w Γx Λx hs hu hp
  have e203 : ρ 17 = .bool (!x12) := (hp 2 rfl).1
  have e204 : ρ 33 = .bool x151 := (hp 18 rfl).1
  refine WL.pickF (v := .bool x151) (bool_tr e203 hc78) e204 ?_
  exact WL.nil ⟨rfl, _, rfl, rfl, hs.cutG 0 0⟩ }
  {
  intro ρ w hs hu205 hp
  obtain ⟨⟨⟨⟨⟨⟨⟨⟨⟨⟨⟨⟨⟨⟨⟨⟨⟨⟨⟨⟨_, hp0_⟩, hp1_⟩, hp2_⟩, hp3_⟩, hp4_⟩, hp5_⟩, hp6_⟩, hp7_⟩, hp8_⟩, hp9_⟩, hp10_⟩, hp11_⟩, hp12_⟩, hp13_⟩, hp14_⟩, hp15_⟩, hp16_⟩, hp17_⟩, hp18_⟩, hp19_⟩ := hp
  have hs : St ok (bz w0) w [pl (tInt .i64) x146.Message.To (adOf (ρ 31)), pl t_api_Message x146.Message (adOf (ρ 30)), pl t_network_Packet x146 (adOf (ρ 29)), vl (tSlice t_network_Packet) x1.Packets (ρ 27), pl (tInt .i64) x138.Message.From (adOf (ρ 24)), pl t_api_Message x138.Message (adOf (ρ 23)), pl t_network_Packet x138 (adOf (ρ 22)), vl (tSlice t_network_Packet) x1.Packets (ρ 20), vl t_network_Network x1 (.agg cs3.toArray)] [blk g9 53 [.int .i64 0, .int .i64 0, .int .i64 0, .int .i64 0, .int .i64 0, .int .i64 0, .int .i64 0, .slice none 0 0, .slice none 0 0, .slice none 0 0, .slice none 0 0, .bool false, .slice none 0 0, .slice none 0 0, .slice none 0 0, .slice none 0 0, .slice none 0 0, .bool false], blk g8 39 [.int .i64 0, .slice none 0 0, .slice none 0 0], blk g7 39 cs3] := hs
  have e206 : ρ 34 = .bool x151 := hp19_
  have e207 : ρ 33 = .bool x151 := hp18_
  have e208 : ρ 32 = .int .i64 x146.Message.To := hp17_
  obtain ⟨ad209, e210⟩ := hp16_
  have e210 : ρ 31 = .pointer (some ad209) := e210
  try rw [e210] at hs
  obtain ⟨ad211, e212⟩ := hp15_
  have e212 : ρ 30 = .pointer (some ad211) := e212
  try rw [e212] at hs
  obtain ⟨ad213, e214⟩ := hp14_
  have e214 : ρ 29 = .pointer (some ad213) := e214
  try rw [e214] at hs
  have e215 : ρ 28 = .int .i64 x11 := hp13_
  obtain ⟨⟨a216, c217⟩, e218⟩ := hp12_
  have e218 : ρ 27 = .slice a216 (x1.Packets).length c217 := e218
  try rw [e218] at hs
  have e219 : ρ 26 = .pointer (some ⟨g7, 1, none⟩) := hp11_
  have e220 : ρ 25 = .int .i64 x138.Message.From := hp10_
  obtain ⟨ad221, e222⟩ := hp9_
  have e222 : ρ 24 = .pointer (some ad221) := e222
  try rw [e222] at hs
  obtain ⟨ad223, e224⟩ := hp8_
  have e224 : ρ 23 = .pointer (some ad223) := e224
  try rw [e224] at hs
  obtain ⟨ad225, e226⟩ := hp7_
  have e226 : ρ 22 = .pointer (some ad225) := e226
  try rw [e226] at hs
  have e227 : ρ 21 = .int .i64 x11 := hp6_
  obtain ⟨⟨a228, c229⟩, e230⟩ := hp5_
  have e230 : ρ 20 = .slice a228 (x1.Packets).length c229 := e230
  try rw [e230] at hs
  have e231 : ρ 19 = .pointer (some ⟨g7, 1, none⟩) := hp4_
  have e232 : ρ 18 = .agg cs3.toArray := hp3_
  have e233 : ρ 17 = .bool (!x12) := hp2_
  have e234 : ρ 16 = .bool (!x12) := hp1_
  have e235 : ρ 15 = .bool x12 := hp0_
  refine WA.done (by kernel_rfl) ?_
  exact Jk17 x151 _ _ (hu205 2 rfl) (hu205 4 rfl) (hu205 5 rfl) (hu205 7 rfl) e206 ((hs.mask [true, true, true]).pick [8]) hf } }
theorem adversary_Order.calls {ok : Nat → Prop} {w0 : World} {x1 : List adversary_Rule} {x4 : network_Network} {a2 : Option Addr} {c3 : Nat} {v5 : Value} {r : List Int} (hf : adversary_Order x1 x4 = some r) (i0 : (vl (tSlice t_adversary_Rule) x1 (.slice a2 x1.length c3)).holds ok w0) (i1 : (vl t_network_Network x4 v5).holds ok w0) :
    Calls Tryd.prog 15 #[.slice a2 x1.length c3, v5] w0 fun e w' => ∃ v, e = .returned v ∧ ∃ y : (Option Addr × Nat × Nat), v = .slice y.1 y.2.1 y.2.2 ∧ St ok (bz w0) w' [] [own (tInt .i64) 3 (.slice y.1 y.2.1 y.2.2) r] := by
  unfold adversary_Order at hf
  refine calls_of_W (fn := Tryd.f15) (N := 31) Tryd.func15 rfl Tryd.ntmps15 rfl ?_
  have hs : St ok (bz w0) w0 [vl (tSlice t_adversary_Rule) x1 (.slice a2 x1.length c3), vl t_network_Network x4 v5] [] := St.init (All.cons i0 (All.cons i1 All.nil))
  clear i0 i1
  obtain ⟨cs6, hl7, rfl⟩ := hs.aggv (n := 3) 1 rfl rfl rfl
  refine W.seqK fun K8 hK8 => ?_
  refine W.region ?_
  refine WL.box (vs := cs6) hs rfl rfl (fun g9 w hs => ?_)
  refine WL.assign (v := .slice none 0 0) rfl ?_
  refine WL.nil ?_
  refine hK8 _ _ ?_
  refine W.seqK fun K10 hK10 => ?_
  refine W.region ?_
  refine WL.assign (v := .slice none 0 0) rfl ?_
  refine WL.nil ?_
  refine hK10 _ _ ?_
  refine W.block ?_
  have hs := hs.ownNil (tInt .i64) 3
  obtain ⟨bs19, hbs19, hfs19⟩ := bindE hf
  refine W.loop hbs19 (fun s ρ w => match s with | (x12, x16) => ∃ (a13 : Option Addr), ∃ (c14 : Nat), ∃ (n15 : Nat), ∃ (cs17 : List Value), cs17.length = 3 ∧ ρ 0 = .slice a2 x1.length c3 ∧ ρ 3 = .pointer (some ⟨g9, 0, none⟩) ∧ ρ 5 = .slice a13 n15 c14 ∧ St ok (bz w0) w [vl (tSlice t_adversary_Rule) x1 (.slice a2 x1.length c3), vl t_network_Network x16 (.agg cs17.toArray)] [own (tInt .i64) 3 (.slice a13 n15 c14) x12, blk g9 39 cs17]) ⟨none, 0, 0, cs6, hl7, rfl, rfl, rfl, (hs.mask [true, true]).pick [0, 1]⟩ ?_
  intro s ρ w os19 hI hf hbbs19
  obtain ⟨x12, x16⟩ := s
  obtain ⟨a13, c14, n15, cs17, hl18, h11_0, h11_3, h11_5, hs⟩ := hI
  unfold adversary_Order.l1 at hf
  refine W.block ?_
  refine W.seqK fun K20 hK20 => ?_
  refine W.region ?_
  refine WL.move (v := .slice a2 x1.length c3) h11_0 ?_
  refine WL.loadAll hs 1 rfl TI39 h11_3 hl18 ?_
  refine WL.move (v := .slice a13 n15 c14) h11_5 ?_
  refine WL.len (v := .slice a13 n15 c14) rfl (len_own hs 0 rfl UN22) ?_
  obtain ⟨⟨x21, x22⟩, hxx21, hf⟩ := bindE hf
  refine WL.call (vs := [.slice a2 x1.length c3, .agg cs17.toArray, .int .i64 (x12.length : Int)]) hs FN14 ⟨rfl, ⟨rfl, ⟨rfl, trivial⟩⟩⟩ (fun ok hA => adversary_Choose.calls (x1 := x1) (x4 := x16) (x8 := (x12.length : Int)) hxx21 (hA.get 0 rfl) (hA.get 1 rfl)) ?_
  rintro _ w hs
  refine WL.move (v := .tuple #[.int .i64 x21, .bool x22]) rfl ?_
  refine WL.extract (v := .int .i64 x21) rfl rfl ?_
  refine WL.extract (v := .bool x22) rfl rfl ?_
  refine WL.assign (v := .int .i64 x21) rfl ?_
  refine WL.assign (v := .bool x22) rfl ?_
  refine WL.nil ?_
  refine hK20 _ _ ?_
  refine W.seqK fun K23 hK23 => ?_
  have Jk29 : ∀ (x25 : Bool) (x26 : network_Network) (cs27 : List Value) (ρ : Env) (w : World), cs27.length = 3 → ρ 0 = .slice a2 x1.length c3 → ρ 3 = .pointer (some ⟨g9, 0, none⟩) → ρ 5 = .slice a13 n15 c14 → ρ 6 = .int .i64 x21 → ρ 7 = .bool x25 → St ok (bz w0) w [vl (tSlice t_adversary_Rule) x1 (.slice a2 x1.length c3), vl t_network_Network x26 (.agg cs27.toArray)] [own (tInt .i64) 3 (.slice a13 n15 c14) x12, blk g9 39 cs27] → adversary_Order.j1 x12 x21 x25 x26 = some os19 → K23 ρ w := by
    intro x25 x26 cs27 ρ w hl28 h24_0 h24_3 h24_5 h24_6 h24_7 hs hf
    refine hK23 _ _ ?_
    unfold adversary_Order.j1 at hf
    refine W.seqK fun K30 hK30 => ?_
    refine W.seqK fun K31 hK31 => ?_
    refine W.region ?_
    refine WL.move (v := .bool x25) h24_7 ?_
    refine WL.not rfl ?_
    refine WL.nil ?_
    refine hK31 _ _ ?_
    rcases iteE hf with ⟨hc32, hf⟩ | ⟨hc32, hf⟩
    {
    refine W.cond_true (bool_tr rfl hc32) ?_
    refine W.seqK fun K33 hK33 => ?_
    refine W.region ?_
    refine WL.move (v := .slice a13 n15 c14) h24_5 ?_
    refine WL.assign (v := .slice a13 n15 c14) rfl ?_
    refine WL.nil ?_
    refine hK33 _ _ ?_
    refine W.ret ?_
    have hr := Option.some.inj hf; subst hr
    have hr := hbbs19 _ rfl; subst hr
    have hf := hfs19
    have hr := Option.some.inj hf; subst hr
    exact ⟨_, resOk_one rfl rfl, (a13, n15, c14), rfl, (hs.mask [true]).pick []⟩ }
    {
    refine W.cond_false (bool_tr rfl hc32) ?_
    refine W.skip ?_
    refine hK30 _ _ ?_
    refine W.region ?_
    refine WL.move (v := .slice a13 n15 c14) h24_5 ?_
    refine WL.move (v := .int .i64 x21) h24_6 ?_
    refine WL.buildSlice (n := 1) (vs := [(0, .int .i64 x21)]) (cs := [.int .i64 x21]) hs ⟨⟨rfl, rfl⟩, trivial⟩ (bls PS22 (by decide) rfl) (fun g34 w hs => ?_)
    obtain ⟨x35, hxx35, hf⟩ := bindE hf
    obtain ⟨hbx35, hex35⟩ := appE hxx35
    refine WL.append (ys := [x21]) (zs := x35) hs 1 rfl 0 rfl UN22 EI3 rfl rfl (fun ok hA => (Cells.one (T := tInt .i64) rfl)) hbx35 (by omega) hex35 (fun v36 w hs => ?_)
    obtain ⟨a37, n39, c38, rfl⟩ := hs.ownv3 1 rfl
    refine WL.assign (v := .slice a37 n39 c38) rfl ?_
    refine WL.nil ?_
    exact ⟨_, (Option.some.inj hf).symm, a37, c38, n39, cs27, hl28, h24_0, h24_3, rfl, (hs.mask [false, true, true]).pick [0, 1]⟩ }
  refine W.seqK fun K40 hK40 => ?_
  refine W.region ?_
  refine WL.move (v := .bool x22) rfl ?_
  refine WL.nil ?_
  refine hK40 _ _ ?_
  rcases iteE hf with ⟨hc41, hf⟩ | ⟨hc41, hf⟩
  {
  refine W.cond_true (bool_tr rfl hc41) ?_
  refine W.region ?_
  refine WL.loadAll hs 1 rfl TI39 h11_3 hl18 ?_
  refine WL.move (v := .int .i64 x21) rfl ?_
  obtain ⟨⟨x42, x43, x44⟩, hxx42, hf⟩ := bindE hf
  refine WL.call (vs := [.agg cs17.toArray, .int .i64 x21]) hs FN30 ⟨rfl, ⟨rfl, trivial⟩⟩ (fun ok hA => network_Deliver.calls (x1 := x16) (x5 := x21) hxx42 (hA.get 1 rfl)) ?_
  rintro ⟨cs45, cs46⟩ w hs
  have hl47 := hs.agglen (n := 3) 0 rfl rfl rfl
  have hl48 := hs.agglen (n := 18) 1 rfl rfl rfl
  refine WL.move (v := .tuple #[.agg cs45.toArray, .agg cs46.toArray, .bool x44]) rfl ?_
  refine WL.extract (v := .agg cs45.toArray) rfl rfl ?_
  refine WL.extract (v := .agg cs46.toArray) rfl rfl ?_
  refine WL.extract (v := .bool x44) rfl rfl ?_
  refine WL.storeAll (vs := cs45) hs 1 rfl TI39 h11_3 rfl rfl hl47 (hs.ones 0 rfl rfl) hl18 (fun w hs => ?_)
  refine WL.assign (v := .bool x44) rfl ?_
  refine WL.nil ?_
  exact Jk29 x44 x42 cs45 _ _ hl47 h11_0 h11_3 h11_5 rfl rfl ((hs.mask [true, true]).pick [2, 0]) hf }
  {
  refine W.cond_false (bool_tr rfl hc41) ?_
  refine W.skip ?_
  exact Jk29 x22 x16 cs17 _ _ hl18 h11_0 h11_3 h11_5 rfl rfl ((hs.mask [true, true]).pick [0, 1]) hf }
end Go.Proofs.YthcohhpmpdijoaaDoor
set_option linter.unusedVariables false
set_option linter.unusedSimpArgs false
namespace Go.Proofs.YthcohhpmpdijoaaDoor
open Go Go.RowKit Go.Proofs.YthcohhpmpdijoaaDoorL
set_option maxRecDepth 100000
set_option maxHeartbeats 4000000
theorem eslaw36_awake.calls {ok : Nat → Prop} {w0 : World}  {mxl : Int} {r : Bool} (hf : eslaw36_awake = some r) (i0 : (pl (tSlice tStr) words_ (⟨0, 0, none⟩)).holds ok w0) (i1 : (vl (tTab Tryd.prog "internal/strconv.uint64pow10" 1 GN1 Go.Lib.pow10Tab) () (.int .i64 0)).holds ok w0) (i2 : (pl (tInt .i64) mxl (⟨2, 0, none⟩)).holds ok w0) (i3 : (pl tErr true (⟨3, 0, none⟩)).holds ok w0) (i4 : (pl tErr true (⟨4, 0, none⟩)).holds ok w0) :
    Calls Tryd.prog 4 #[] w0 fun e w' => ∃ v, e = .returned v ∧ ∃ y : Unit, v = .bool r ∧ St ok (bz w0) w' [] [] := by
  unfold eslaw36_awake at hf
  refine calls_of_W (fn := Tryd.f4) (N := 62) Tryd.func4 rfl Tryd.ntmps4 rfl ?_
  have hs : St ok (bz w0) w0 [pl (tSlice tStr) words_ (⟨0, 0, none⟩), vl (tTab Tryd.prog "internal/strconv.uint64pow10" 1 GN1 Go.Lib.pow10Tab) () (.int .i64 0), pl (tInt .i64) mxl (⟨2, 0, none⟩), pl tErr true (⟨3, 0, none⟩), pl tErr true (⟨4, 0, none⟩)] [] := St.init (All.cons i0 (All.cons i1 (All.cons i2 (All.cons i3 (All.cons i4 All.nil)))))
  clear i0 i1 i2 i3 i4
  refine W.seqK fun K1 hK1 => ?_
  refine W.region ?_
  refine WL.assign (v := .bool false) rfl ?_
  refine WL.nil ?_
  refine hK1 _ _ ?_
  refine W.seqK fun K2 hK2 => ?_
  refine W.region ?_
  obtain ⟨x3, hxx3, hf⟩ := bindE hf
  refine WL.call (vs := []) hs FN13 trivial (fun ok hA => network_New.calls hxx3) ?_
  rintro ⟨⟨a4, n5, c6⟩, ⟨a7, n8, c9⟩⟩ w hs
  refine WL.build (vs := [(0, .int .i64 2), (1, .int .i64 1), (2, .int .i64 2)]) (cs := [.int .i64 2, .int .i64 1, .int .i64 2, .int .i64 0, .int .i64 0, .int .i64 0, .int .i64 0, .slice none 0 0, .slice none 0 0, .slice none 0 0, .slice none 0 0, .bool false, .slice none 0 0, .slice none 0 0, .slice none 0 0, .slice none 0 0, .slice none 0 0, .bool false]) ⟨⟨rfl, rfl⟩, ⟨⟨rfl, rfl⟩, ⟨⟨rfl, rfl⟩, trivial⟩⟩⟩ (bld PL53 (by kernel_rfl)) ?_
  refine WL.build (vs := [(0, .int .i64 1), (1, .int .i64 2), (2, .int .i64 3)]) (cs := [.int .i64 1, .int .i64 2, .int .i64 3, .int .i64 0, .int .i64 0, .int .i64 0, .int .i64 0, .slice none 0 0, .slice none 0 0, .slice none 0 0, .slice none 0 0, .bool false, .slice none 0 0, .slice none 0 0, .slice none 0 0, .slice none 0 0, .slice none 0 0, .bool false]) ⟨⟨rfl, rfl⟩, ⟨⟨rfl, rfl⟩, ⟨⟨rfl, rfl⟩, trivial⟩⟩⟩ (bld PL53 (by kernel_rfl)) ?_
  refine WL.build (vs := [(0, .int .i64 2), (1, .int .i64 3), (2, .int .i64 1)]) (cs := [.int .i64 2, .int .i64 3, .int .i64 1, .int .i64 0, .int .i64 0, .int .i64 0, .int .i64 0, .slice none 0 0, .slice none 0 0, .slice none 0 0, .slice none 0 0, .bool false, .slice none 0 0, .slice none 0 0, .slice none 0 0, .slice none 0 0, .slice none 0 0, .bool false]) ⟨⟨rfl, rfl⟩, ⟨⟨rfl, rfl⟩, ⟨⟨rfl, rfl⟩, trivial⟩⟩⟩ (bld PL53 (by kernel_rfl)) ?_
  refine WL.buildSlice (n := 3) (vs := [(0, .agg ([.int .i64 2, .int .i64 1, .int .i64 2, .int .i64 0, .int .i64 0, .int .i64 0, .int .i64 0, .slice none 0 0, .slice none 0 0, .slice none 0 0, .slice none 0 0, .bool false, .slice none 0 0, .slice none 0 0, .slice none 0 0, .slice none 0 0, .slice none 0 0, .bool false] : List Value).toArray), (1, .agg ([.int .i64 1, .int .i64 2, .int .i64 3, .int .i64 0, .int .i64 0, .int .i64 0, .int .i64 0, .slice none 0 0, .slice none 0 0, .slice none 0 0, .slice none 0 0, .bool false, .slice none 0 0, .slice none 0 0, .slice none 0 0, .slice none 0 0, .slice none 0 0, .bool false] : List Value).toArray), (2, .agg ([.int .i64 2, .int .i64 3, .int .i64 1, .int .i64 0, .int .i64 0, .int .i64 0, .int .i64 0, .slice none 0 0, .slice none 0 0, .slice none 0 0, .slice none 0 0, .bool false, .slice none 0 0, .slice none 0 0, .slice none 0 0, .slice none 0 0, .slice none 0 0, .bool false] : List Value).toArray)]) (cs := [.int .i64 2, .int .i64 1, .int .i64 2, .int .i64 0, .int .i64 0, .int .i64 0, .int .i64 0, .slice none 0 0, .slice none 0 0, .slice none 0 0, .slice none 0 0, .bool false, .slice none 0 0, .slice none 0 0, .slice none 0 0, .slice none 0 0, .slice none 0 0, .bool false, .int .i64 1, .int .i64 2, .int .i64 3, .int .i64 0, .int .i64 0, .int .i64 0, .int .i64 0, .slice none 0 0, .slice none 0 0, .slice none 0 0, .slice none 0 0, .bool false, .slice none 0 0, .slice none 0 0, .slice none 0 0, .slice none 0 0, .slice none 0 0, .bool false, .int .i64 2, .int .i64 3, .int .i64 1, .int .i64 0, .int .i64 0, .int .i64 0, .int .i64 0, .slice none 0 0, .slice none 0 0, .slice none 0 0, .slice none 0 0, .bool false, .slice none 0 0, .slice none 0 0, .slice none 0 0, .slice none 0 0, .slice none 0 0, .bool false]) hs ⟨⟨rfl, rfl⟩, ⟨⟨rfl, rfl⟩, ⟨⟨rfl, rfl⟩, trivial⟩⟩⟩ (bls PS54 (by decide) rfl) (fun g10 w hs => ?_)
  obtain rfl := hs.ownLen 1 rfl
  have hs := hs.freezeOwn 1 rfl
  obtain rfl := hs.ownLen 1 rfl
  have hs := hs.freezeOwn 1 rfl
  have hs := hs.add (it := vl t_network_Network (⟨x3.Next, x3.Packets, x3.Sides⟩ : network_Network) (.agg [.int .i64 x3.Next, .slice a4 (x3.Packets).length c6, .slice a7 (x3.Sides).length c9].toArray)) fun ok hA => V_agg (show t_network_Network.R ok _ _ _ from ⟨[.int .i64 x3.Next], [.slice a4 (x3.Packets).length c6, .slice a7 (x3.Sides).length c9], rfl, rfl, ⟨[.slice a4 (x3.Packets).length c6], [.slice a7 (x3.Sides).length c9], rfl, (R_one (hA.get 1 rfl)), (R_one (hA.get 0 rfl))⟩⟩) rfl
  have hs := hs.ownLit (A := t_api_Message) (xs := [(⟨2, 1, 2, (⟨0, 0⟩ : api_AccessID), 0, 0, (⟨[], []⟩ : api_Certificate), (⟨[], []⟩ : api_Certificate), false, (⟨[], []⟩ : api_Certificate), [], [], [], false⟩ : api_Message), (⟨1, 2, 3, (⟨0, 0⟩ : api_AccessID), 0, 0, (⟨[], []⟩ : api_Certificate), (⟨[], []⟩ : api_Certificate), false, (⟨[], []⟩ : api_Certificate), [], [], [], false⟩ : api_Message), (⟨2, 3, 1, (⟨0, 0⟩ : api_AccessID), 0, 0, (⟨[], []⟩ : api_Certificate), (⟨[], []⟩ : api_Certificate), false, (⟨[], []⟩ : api_Certificate), [], [], [], false⟩ : api_Message)]) 0 rfl (fun ok hA => (Cells.app (Cells.one (T := t_api_Message) (show t_api_Message.R ok _ (⟨2, 1, 2, (⟨0, 0⟩ : api_AccessID), 0, 0, (⟨[], []⟩ : api_Certificate), (⟨[], []⟩ : api_Certificate), false, (⟨[], []⟩ : api_Certificate), [], [], [], false⟩ : api_Message) _ from ⟨[.int .i64 2], [.int .i64 1, .int .i64 2, .int .i64 0, .int .i64 0, .int .i64 0, .int .i64 0, .slice none 0 0, .slice none 0 0, .slice none 0 0, .slice none 0 0, .bool false, .slice none 0 0, .slice none 0 0, .slice none 0 0, .slice none 0 0, .slice none 0 0, .bool false], rfl, rfl, ⟨[.int .i64 1], [.int .i64 2, .int .i64 0, .int .i64 0, .int .i64 0, .int .i64 0, .slice none 0 0, .slice none 0 0, .slice none 0 0, .slice none 0 0, .bool false, .slice none 0 0, .slice none 0 0, .slice none 0 0, .slice none 0 0, .slice none 0 0, .bool false], rfl, rfl, ⟨[.int .i64 2], [.int .i64 0, .int .i64 0, .int .i64 0, .int .i64 0, .slice none 0 0, .slice none 0 0, .slice none 0 0, .slice none 0 0, .bool false, .slice none 0 0, .slice none 0 0, .slice none 0 0, .slice none 0 0, .slice none 0 0, .bool false], rfl, rfl, ⟨[.int .i64 0, .int .i64 0], [.int .i64 0, .int .i64 0, .slice none 0 0, .slice none 0 0, .slice none 0 0, .slice none 0 0, .bool false, .slice none 0 0, .slice none 0 0, .slice none 0 0, .slice none 0 0, .slice none 0 0, .bool false], rfl, ⟨[.int .i64 0], [.int .i64 0], rfl, rfl, rfl⟩, ⟨[.int .i64 0], [.int .i64 0, .slice none 0 0, .slice none 0 0, .slice none 0 0, .slice none 0 0, .bool false, .slice none 0 0, .slice none 0 0, .slice none 0 0, .slice none 0 0, .slice none 0 0, .bool false], rfl, rfl, ⟨[.int .i64 0], [.slice none 0 0, .slice none 0 0, .slice none 0 0, .slice none 0 0, .bool false, .slice none 0 0, .slice none 0 0, .slice none 0 0, .slice none 0 0, .slice none 0 0, .bool false], rfl, rfl, ⟨[.slice none 0 0, .slice none 0 0], [.slice none 0 0, .slice none 0 0, .bool false, .slice none 0 0, .slice none 0 0, .slice none 0 0, .slice none 0 0, .slice none 0 0, .bool false], rfl, ⟨[.slice none 0 0], [.slice none 0 0], rfl, R_nil, R_nil⟩, ⟨[.slice none 0 0, .slice none 0 0], [.bool false, .slice none 0 0, .slice none 0 0, .slice none 0 0, .slice none 0 0, .slice none 0 0, .bool false], rfl, ⟨[.slice none 0 0], [.slice none 0 0], rfl, R_nil, R_nil⟩, ⟨[.bool false], [.slice none 0 0, .slice none 0 0, .slice none 0 0, .slice none 0 0, .slice none 0 0, .bool false], rfl, rfl, ⟨[.slice none 0 0, .slice none 0 0], [.slice none 0 0, .slice none 0 0, .slice none 0 0, .bool false], rfl, ⟨[.slice none 0 0], [.slice none 0 0], rfl, R_nil, R_nil⟩, ⟨[.slice none 0 0], [.slice none 0 0, .slice none 0 0, .bool false], rfl, R_nil, ⟨[.slice none 0 0], [.slice none 0 0, .bool false], rfl, R_nil, ⟨[.slice none 0 0], [.bool false], rfl, R_nil, rfl⟩⟩⟩⟩⟩⟩⟩⟩⟩⟩⟩⟩⟩)) (Cells.app (Cells.one (T := t_api_Message) (show t_api_Message.R ok _ (⟨1, 2, 3, (⟨0, 0⟩ : api_AccessID), 0, 0, (⟨[], []⟩ : api_Certificate), (⟨[], []⟩ : api_Certificate), false, (⟨[], []⟩ : api_Certificate), [], [], [], false⟩ : api_Message) _ from ⟨[.int .i64 1], [.int .i64 2, .int .i64 3, .int .i64 0, .int .i64 0, .int .i64 0, .int .i64 0, .slice none 0 0, .slice none 0 0, .slice none 0 0, .slice none 0 0, .bool false, .slice none 0 0, .slice none 0 0, .slice none 0 0, .slice none 0 0, .slice none 0 0, .bool false], rfl, rfl, ⟨[.int .i64 2], [.int .i64 3, .int .i64 0, .int .i64 0, .int .i64 0, .int .i64 0, .slice none 0 0, .slice none 0 0, .slice none 0 0, .slice none 0 0, .bool false, .slice none 0 0, .slice none 0 0, .slice none 0 0, .slice none 0 0, .slice none 0 0, .bool false], rfl, rfl, ⟨[.int .i64 3], [.int .i64 0, .int .i64 0, .int .i64 0, .int .i64 0, .slice none 0 0, .slice none 0 0, .slice none 0 0, .slice none 0 0, .bool false, .slice none 0 0, .slice none 0 0, .slice none 0 0, .slice none 0 0, .slice none 0 0, .bool false], rfl, rfl, ⟨[.int .i64 0, .int .i64 0], [.int .i64 0, .int .i64 0, .slice none 0 0, .slice none 0 0, .slice none 0 0, .slice none 0 0, .bool false, .slice none 0 0, .slice none 0 0, .slice none 0 0, .slice none 0 0, .slice none 0 0, .bool false], rfl, ⟨[.int .i64 0], [.int .i64 0], rfl, rfl, rfl⟩, ⟨[.int .i64 0], [.int .i64 0, .slice none 0 0, .slice none 0 0, .slice none 0 0, .slice none 0 0, .bool false, .slice none 0 0, .slice none 0 0, .slice none 0 0, .slice none 0 0, .slice none 0 0, .bool false], rfl, rfl, ⟨[.int .i64 0], [.slice none 0 0, .slice none 0 0, .slice none 0 0, .slice none 0 0, .bool false, .slice none 0 0, .slice none 0 0, .slice none 0 0, .slice none 0 0, .slice none 0 0, .bool false], rfl, rfl, ⟨[.slice none 0 0, .slice none 0 0], [.slice none 0 0, .slice none 0 0, .bool false, .slice none 0 0, .slice none 0 0, .slice none 0 0, .slice none 0 0, .slice none 0 0, .bool false], rfl, ⟨[.slice none 0 0], [.slice none 0 0], rfl, R_nil, R_nil⟩, ⟨[.slice none 0 0, .slice none 0 0], [.bool false, .slice none 0 0, .slice none 0 0, .slice none 0 0, .slice none 0 0, .slice none 0 0, .bool false], rfl, ⟨[.slice none 0 0], [.slice none 0 0], rfl, R_nil, R_nil⟩, ⟨[.bool false], [.slice none 0 0, .slice none 0 0, .slice none 0 0, .slice none 0 0, .slice none 0 0, .bool false], rfl, rfl, ⟨[.slice none 0 0, .slice none 0 0], [.slice none 0 0, .slice none 0 0, .slice none 0 0, .bool false], rfl, ⟨[.slice none 0 0], [.slice none 0 0], rfl, R_nil, R_nil⟩, ⟨[.slice none 0 0], [.slice none 0 0, .slice none 0 0, .bool false], rfl, R_nil, ⟨[.slice none 0 0], [.slice none 0 0, .bool false], rfl, R_nil, ⟨[.slice none 0 0], [.bool false], rfl, R_nil, rfl⟩⟩⟩⟩⟩⟩⟩⟩⟩⟩⟩⟩⟩)) (Cells.one (T := t_api_Message) (show t_api_Message.R ok _ (⟨2, 3, 1, (⟨0, 0⟩ : api_AccessID), 0, 0, (⟨[], []⟩ : api_Certificate), (⟨[], []⟩ : api_Certificate), false, (⟨[], []⟩ : api_Certificate), [], [], [], false⟩ : api_Message) _ from ⟨[.int .i64 2], [.int .i64 3, .int .i64 1, .int .i64 0, .int .i64 0, .int .i64 0, .int .i64 0, .slice none 0 0, .slice none 0 0, .slice none 0 0, .slice none 0 0, .bool false, .slice none 0 0, .slice none 0 0, .slice none 0 0, .slice none 0 0, .slice none 0 0, .bool false], rfl, rfl, ⟨[.int .i64 3], [.int .i64 1, .int .i64 0, .int .i64 0, .int .i64 0, .int .i64 0, .slice none 0 0, .slice none 0 0, .slice none 0 0, .slice none 0 0, .bool false, .slice none 0 0, .slice none 0 0, .slice none 0 0, .slice none 0 0, .slice none 0 0, .bool false], rfl, rfl, ⟨[.int .i64 1], [.int .i64 0, .int .i64 0, .int .i64 0, .int .i64 0, .slice none 0 0, .slice none 0 0, .slice none 0 0, .slice none 0 0, .bool false, .slice none 0 0, .slice none 0 0, .slice none 0 0, .slice none 0 0, .slice none 0 0, .bool false], rfl, rfl, ⟨[.int .i64 0, .int .i64 0], [.int .i64 0, .int .i64 0, .slice none 0 0, .slice none 0 0, .slice none 0 0, .slice none 0 0, .bool false, .slice none 0 0, .slice none 0 0, .slice none 0 0, .slice none 0 0, .slice none 0 0, .bool false], rfl, ⟨[.int .i64 0], [.int .i64 0], rfl, rfl, rfl⟩, ⟨[.int .i64 0], [.int .i64 0, .slice none 0 0, .slice none 0 0, .slice none 0 0, .slice none 0 0, .bool false, .slice none 0 0, .slice none 0 0, .slice none 0 0, .slice none 0 0, .slice none 0 0, .bool false], rfl, rfl, ⟨[.int .i64 0], [.slice none 0 0, .slice none 0 0, .slice none 0 0, .slice none 0 0, .bool false, .slice none 0 0, .slice none 0 0, .slice none 0 0, .slice none 0 0, .slice none 0 0, .bool false], rfl, rfl, ⟨[.slice none 0 0, .slice none 0 0], [.slice none 0 0, .slice none 0 0, .bool false, .slice none 0 0, .slice none 0 0, .slice none 0 0, .slice none 0 0, .slice none 0 0, .bool false], rfl, ⟨[.slice none 0 0], [.slice none 0 0], rfl, R_nil, R_nil⟩, ⟨[.slice none 0 0, .slice none 0 0], [.bool false, .slice none 0 0, .slice none 0 0, .slice none 0 0, .slice none 0 0, .slice none 0 0, .bool false], rfl, ⟨[.slice none 0 0], [.slice none 0 0], rfl, R_nil, R_nil⟩, ⟨[.bool false], [.slice none 0 0, .slice none 0 0, .slice none 0 0, .slice none 0 0, .slice none 0 0, .bool false], rfl, rfl, ⟨[.slice none 0 0, .slice none 0 0], [.slice none 0 0, .slice none 0 0, .slice none 0 0, .bool false], rfl, ⟨[.slice none 0 0], [.slice none 0 0], rfl, R_nil, R_nil⟩, ⟨[.slice none 0 0], [.slice none 0 0, .slice none 0 0, .bool false], rfl, R_nil, ⟨[.slice none 0 0], [.slice none 0 0, .bool false], rfl, R_nil, ⟨[.slice none 0 0], [.bool false], rfl, R_nil, rfl⟩⟩⟩⟩⟩⟩⟩⟩⟩⟩⟩⟩⟩))))) (Nat.le_of_ble_eq_true rfl)
  have hs := hs.freezeOwn 0 rfl
  obtain ⟨x11, hxx11, hf⟩ := bindE hf
  refine WL.call (vs := [.agg ([.int .i64 x3.Next, .slice a4 (x3.Packets).length c6, .slice a7 (x3.Sides).length c9] : List Value).toArray, .slice (some ⟨g10, 0, none⟩) ([(⟨2, 1, 2, (⟨0, 0⟩ : api_AccessID), 0, 0, (⟨[], []⟩ : api_Certificate), (⟨[], []⟩ : api_Certificate), false, (⟨[], []⟩ : api_Certificate), [], [], [], false⟩ : api_Message), (⟨1, 2, 3, (⟨0, 0⟩ : api_AccessID), 0, 0, (⟨[], []⟩ : api_Certificate), (⟨[], []⟩ : api_Certificate), false, (⟨[], []⟩ : api_Certificate), [], [], [], false⟩ : api_Message), (⟨2, 3, 1, (⟨0, 0⟩ : api_AccessID), 0, 0, (⟨[], []⟩ : api_Certificate), (⟨[], []⟩ : api_Certificate), false, (⟨[], []⟩ : api_Certificate), [], [], [], false⟩ : api_Message)]).length 3]) hs FN12 ⟨rfl, ⟨rfl, trivial⟩⟩ (fun ok hA => network_Send.calls (x1 := (⟨x3.Next, x3.Packets, x3.Sides⟩ : network_Network)) (x5 := ([(⟨2, 1, 2, (⟨0, 0⟩ : api_AccessID), 0, 0, (⟨[], []⟩ : api_Certificate), (⟨[], []⟩ : api_Certificate), false, (⟨[], []⟩ : api_Certificate), [], [], [], false⟩ : api_Message), (⟨1, 2, 3, (⟨0, 0⟩ : api_AccessID), 0, 0, (⟨[], []⟩ : api_Certificate), (⟨[], []⟩ : api_Certificate), false, (⟨[], []⟩ : api_Certificate), [], [], [], false⟩ : api_Message), (⟨2, 3, 1, (⟨0, 0⟩ : api_AccessID), 0, 0, (⟨[], []⟩ : api_Certificate), (⟨[], []⟩ : api_Certificate), false, (⟨[], []⟩ : api_Certificate), [], [], [], false⟩ : api_Message)])) hxx11 (hA.get 1 rfl) (hA.get 0 rfl)) ?_
  rintro ⟨⟨a12, n13, c14⟩, ⟨a15, n16, c17⟩⟩ w hs
  refine WL.alloc hs ZV39 (fun g18 w hs => ?_)
  refine WL.storeAll (vs := [.int .i64 x11.Next, .slice a12 n13 c14, .slice a15 n16 c17]) hs 0 rfl TI39 rfl rfl rfl rfl (ones_of rfl) rfl (fun w hs => ?_)
  refine WL.nil ?_
  refine hK2 _ _ ?_
  refine W.seqK fun K19 hK19 => ?_
  refine W.region ?_
  obtain ⟨⟨x20, x21⟩, hxx20, hf⟩ := bindE hf
  refine WL.call (vs := [bstr ([112, 114, 101, 102, 101, 114, 32, 107, 105, 110, 100, 32, 50, 59, 32, 110, 101, 119, 101, 115, 116] : List UInt8)]) hs FN9 ⟨rfl, trivial⟩ (fun ok hA => adversary_Parse.calls (x1 := ([112, 114, 101, 102, 101, 114, 32, 107, 105, 110, 100, 32, 50, 59, 32, 110, 101, 119, 101, 115, 116] : List UInt8)) hxx20 (hA.get 4 rfl) (hA.get 5 rfl) (hA.get 6 rfl) (hA.get 7 rfl) (hA.get 8 rfl)) ?_
  rintro ⟨a22, n23, c24⟩ w hs
  refine WL.move (v := .tuple #[.slice a22 n23 c24, .int .i64 x21]) rfl ?_
  refine WL.extract (v := .slice a22 n23 c24) rfl rfl ?_
  refine WL.extract (v := .int .i64 x21) rfl rfl ?_
  refine WL.assign (v := .slice a22 n23 c24) rfl ?_
  refine WL.assign (v := .int .i64 x21) rfl ?_
  refine WL.nil ?_
  refine hK19 _ _ ?_
  refine W.seqK fun K25 hK25 => ?_
  refine W.region ?_
  refine WL.move (v := .slice a22 n23 c24) rfl ?_
  refine WL.loadN (vs := [.int .i64 x11.Next, .slice a12 n13 c14, .slice a15 n16 c17]) hs 1 rfl TI39 rfl rfl rfl ?_
  obtain ⟨⟨x26, x27⟩, hxx26, hf⟩ := bindE hf
  refine WL.callL (vs := [.slice a22 x20.length c24, .agg ([.int .i64 x11.Next, .slice a12 n13 c14, .slice a15 n16 c17] : List Value).toArray, .int .i64 0]) hs FN14 ⟨(Eq.trans rfl (sl_len (hs.ownLen 0 rfl))), ⟨rfl, ⟨rfl, trivial⟩⟩⟩ (adversary_Choose.calls (x1 := x20) (x4 := (⟨x11.Next, x11.Packets, x11.Sides⟩ : network_Network)) (x8 := 0) hxx26 (hs.ownN 0 rfl) (V_agg (show t_network_Network.R (fun _ => True) _ (⟨x11.Next, x11.Packets, x11.Sides⟩ : network_Network) [.int .i64 x11.Next, .slice a12 n13 c14, .slice a15 n16 c17] from ⟨[.int .i64 x11.Next], [.slice a12 n13 c14, .slice a15 n16 c17], rfl, rfl, ⟨[.slice a12 n13 c14], [.slice a15 n16 c17], rfl, (R_one (hs.ownT 2 rfl)), (R_one (hs.ownT 3 rfl))⟩⟩) rfl)) ?_
  rintro _ w hs
  refine WL.move (v := .tuple #[.int .i64 x26, .bool x27]) rfl ?_
  refine WL.extract (v := .int .i64 x26) rfl rfl ?_
  refine WL.extract (v := .bool x27) rfl rfl ?_
  refine WL.assign (v := .int .i64 x26) rfl ?_
  refine WL.assign (v := .bool x27) rfl ?_
  refine WL.nil ?_
  refine hK25 _ _ ?_
  refine W.seqK fun K28 hK28 => ?_
  refine W.region ?_
  refine WL.move (v := .slice a22 n23 c24) rfl ?_
  refine WL.loadN (vs := [.int .i64 x11.Next, .slice a12 n13 c14, .slice a15 n16 c17]) hs 1 rfl TI39 rfl rfl rfl ?_
  obtain rfl := hs.ownLen 0 rfl
  have hs := hs.freezeOwn 0 rfl
  obtain rfl := hs.ownLen 1 rfl
  have hs := hs.freezeOwn 1 rfl
  obtain rfl := hs.ownLen 1 rfl
  have hs := hs.freezeOwn 1 rfl
  have hs := hs.add (it := vl t_network_Network (⟨x11.Next, x11.Packets, x11.Sides⟩ : network_Network) (.agg [.int .i64 x11.Next, .slice a12 (x11.Packets).length c14, .slice a15 (x11.Sides).length c17].toArray)) fun ok hA => V_agg (show t_network_Network.R ok _ _ _ from ⟨[.int .i64 x11.Next], [.slice a12 (x11.Packets).length c14, .slice a15 (x11.Sides).length c17], rfl, rfl, ⟨[.slice a12 (x11.Packets).length c14], [.slice a15 (x11.Sides).length c17], rfl, (R_one (hA.get 1 rfl)), (R_one (hA.get 0 rfl))⟩⟩) rfl
  obtain ⟨x29, hxx29, hf⟩ := bindE hf
  refine WL.call (vs := [.slice a22 x20.length c24, .agg ([.int .i64 x11.Next, .slice a12 (x11.Packets).length c14, .slice a15 (x11.Sides).length c17] : List Value).toArray]) hs FN15 ⟨rfl, ⟨rfl, trivial⟩⟩ (fun ok hA => adversary_Order.calls (x1 := x20) (x4 := (⟨x11.Next, x11.Packets, x11.Sides⟩ : network_Network)) hxx29 (hA.get 3 rfl) (hA.get 0 rfl)) ?_
  rintro ⟨a30, n31, c32⟩ w hs
  refine WL.assign (v := .slice a30 n31 c32) rfl ?_
  refine WL.nil ?_
  refine hK28 _ _ ?_
  refine W.seqK fun K33 hK33 => ?_
  have Jk36 : ∀ (x35 : Bool) (ρ : Env) (w : World), ρ 0 = .bool x35 → St ok (bz w0) w [pl (tSlice tStr) words_ (⟨0, 0, none⟩), vl (tTab Tryd.prog "internal/strconv.uint64pow10" 1 GN1 Go.Lib.pow10Tab) () (.int .i64 0), pl (tInt .i64) mxl (⟨2, 0, none⟩), pl tErr true (⟨3, 0, none⟩), pl tErr true (⟨4, 0, none⟩)] [] → eslaw36_awake.j1 x35 = some r → K33 ρ w := by
    intro x35 ρ w h34_0 hs hf
    refine hK33 _ _ ?_
    unfold eslaw36_awake.j1 at hf
    refine W.ret ?_
    have hr := Option.some.inj hf; subst hr
    exact ⟨_, resOk_one rfl h34_0, (), rfl, (hs.mask []).pick []⟩
  refine W.region ?_
  refine WL.move (v := .int .i64 x21) rfl ?_
  refine WL.bin (v := .bool (x21 == 0)) rfl rfl (ib_eql _ _ _) ?_
  refine WL.move (v := .bool (x21 == 0)) rfl ?_
  rcases iteE hf with ⟨hc37, hf⟩ | ⟨hc37, hf⟩
  {
  refine WL.move (v := .slice a22 x20.length c24) rfl ?_ (hg := (wanted_of rfl rfl (bool_tr rfl hc37)).trans rfl)
  refine WL.len (v := .slice a22 x20.length c24) rfl (len_slice UN24) ?_ (hg := (wanted_of rfl rfl (bool_tr rfl hc37)).trans rfl)
  refine WL.bin (v := .bool ((x20.length : Int) == 2)) rfl rfl (ib_eql _ _ _) ?_ (hg := (wanted_of rfl rfl (bool_tr rfl hc37)).trans rfl)
  refine WL.pickT (v := .bool ((x20.length : Int) == 2)) (bool_tr rfl hc37) rfl ?_
  refine WL.move (v := .bool ((x20.length : Int) == 2)) rfl ?_
  rcases iteE hf with ⟨hc38, hf⟩ | ⟨hc38, hf⟩
  {
  refine WL.move (v := .bool x27) rfl ?_ (hg := (wanted_of rfl rfl (bool_tr rfl hc38)).trans rfl)
  refine WL.pickT (v := .bool x27) (bool_tr rfl hc38) rfl ?_
  refine WL.move (v := .bool x27) rfl ?_
  rcases iteE hf with ⟨hc39, hf⟩ | ⟨hc39, hf⟩
  {
  refine WL.move (v := .int .i64 x26) rfl ?_ (hg := (wanted_of rfl rfl (bool_tr rfl hc39)).trans rfl)
  refine WL.bin (v := .bool (x26 == 3)) rfl rfl (ib_eql _ _ _) ?_ (hg := (wanted_of rfl rfl (bool_tr rfl hc39)).trans rfl)
  refine WL.pickT (v := .bool (x26 == 3)) (bool_tr rfl hc39) rfl ?_
  refine WL.move (v := .bool (x26 == 3)) rfl ?_
  rcases iteE hf with ⟨hc40, hf⟩ | ⟨hc40, hf⟩
  {
  refine WL.move (v := .slice a30 n31 c32) rfl ?_ (hg := (wanted_of rfl rfl (bool_tr rfl hc40)).trans rfl)
  refine WL.len (v := .slice a30 n31 c32) rfl (len_own hs 0 rfl UN22) ?_ (hg := (wanted_of rfl rfl (bool_tr rfl hc40)).trans rfl)
  refine WL.bin (v := .bool ((x29.length : Int) == 3)) rfl rfl (ib_eql _ _ _) ?_ (hg := (wanted_of rfl rfl (bool_tr rfl hc40)).trans rfl)
  refine WL.pickT (v := .bool ((x29.length : Int) == 3)) (bool_tr rfl hc40) rfl ?_
  refine WL.move (v := .bool ((x29.length : Int) == 3)) rfl ?_
  rcases iteE hf with ⟨hc41, hf⟩ | ⟨hc41, hf⟩
  {
  refine WL.move (v := .slice a30 n31 c32) rfl ?_ (hg := (wanted_of rfl rfl (bool_tr rfl hc41)).trans rfl)
  obtain ⟨x42, hxx42, hf⟩ := bindE hf
  refine WL.indexAddrO hs 0 rfl UN22 TI3 rfl rfl hxx42 (fun ad43 hatad43 => ?_) (hg := (wanted_of rfl rfl (bool_tr rfl hc41)).trans rfl)
  refine WL.loadO hs 0 rfl TI3 (.inr rfl) hatad43 hxx42 rfl (fun v44 hs => ?_) (hg := (wanted_of rfl rfl (bool_tr rfl hc41)).trans rfl)
  obtain rfl := hs.int 0 rfl
  refine WL.bin (v := .bool (x42 == 1)) rfl rfl (ib_eql _ _ _) ?_ (hg := (wanted_of rfl rfl (bool_tr rfl hc41)).trans rfl)
  refine WL.pickT (v := .bool (x42 == 1)) (bool_tr rfl hc41) rfl ?_
  refine WL.move (v := .bool (x42 == 1)) rfl ?_
  rcases iteE hf with ⟨hc45, hf⟩ | ⟨hc45, hf⟩
  {
  refine WL.move (v := .slice a30 n31 c32) rfl ?_ (hg := (wanted_of rfl rfl (bool_tr rfl hc45)).trans rfl)
  obtain ⟨x46, hxx46, hf⟩ := bindE hf
  refine WL.indexAddrO hs 0 rfl UN22 TI3 rfl rfl hxx46 (fun ad47 hatad47 => ?_) (hg := (wanted_of rfl rfl (bool_tr rfl hc45)).trans rfl)
  refine WL.loadO hs 0 rfl TI3 (.inr rfl) hatad47 hxx46 rfl (fun v48 hs => ?_) (hg := (wanted_of rfl rfl (bool_tr rfl hc45)).trans rfl)
  obtain rfl := hs.int 0 rfl
  refine WL.bin (v := .bool (x46 == 2)) rfl rfl (ib_eql _ _ _) ?_ (hg := (wanted_of rfl rfl (bool_tr rfl hc45)).trans rfl)
  refine WL.pickT (v := .bool (x46 == 2)) (bool_tr rfl hc45) rfl ?_
  refine WL.move (v := .bool (x46 == 2)) rfl ?_
  rcases iteE hf with ⟨hc49, hf⟩ | ⟨hc49, hf⟩
  {
  refine WL.move (v := .slice a22 x20.length c24) rfl ?_ (hg := (wanted_of rfl rfl (bool_tr rfl hc49)).trans rfl)
  obtain ⟨x50, hxx50, hf⟩ := bindE hf
  refine WL.call (vs := [.slice a22 x20.length c24]) hs FN6 ⟨rfl, trivial⟩ (fun ok hA => adversary_Format.calls (x1 := x20) hxx50 (hA.get 5 rfl) (hA.get 10 rfl) (hA.get 11 rfl)) ?_ (hg := (wanted_of rfl rfl (bool_tr rfl hc49)).trans rfl)
  rintro _ w hs
  refine WL.binS (v := .bool (x50 == ([112, 114, 101, 102, 101, 114, 32, 107, 105, 110, 100, 32, 50, 59, 32, 110, 101, 119, 101, 115, 116] : List UInt8))) rfl rfl (sb_eql _ _) ?_ (hg := (wanted_of rfl rfl (bool_tr rfl hc49)).trans rfl)
  refine WL.pickT (v := .bool (x50 == ([112, 114, 101, 102, 101, 114, 32, 107, 105, 110, 100, 32, 50, 59, 32, 110, 101, 119, 101, 115, 116] : List UInt8))) (bool_tr rfl hc49) rfl ?_
  refine WL.assign (v := .bool (x50 == ([112, 114, 101, 102, 101, 114, 32, 107, 105, 110, 100, 32, 50, 59, 32, 110, 101, 119, 101, 115, 116] : List UInt8))) rfl ?_
  refine WL.nil ?_
  exact Jk36 (x50 == ([112, 114, 101, 102, 101, 114, 32, 107, 105, 110, 100, 32, 50, 59, 32, 110, 101, 119, 101, 115, 116] : List UInt8)) _ _ rfl ((hs.mask []).pick [10, 11, 12, 13, 14]) hf }
  {
  refine WL.pass ((wanted_of rfl rfl (bool_tr rfl hc49)).trans rfl) rfl ?_
  refine WL.pass ((wanted_of rfl rfl (bool_tr rfl hc49)).trans rfl) rfl ?_
  refine WL.pass ((wanted_of rfl rfl (bool_tr rfl hc49)).trans rfl) rfl ?_
  refine WL.pickF (v := .bool false) (bool_tr rfl hc49) rfl ?_
  refine WL.assign (v := .bool false) rfl ?_
  refine WL.nil ?_
  exact Jk36 false _ _ rfl ((hs.mask []).pick [10, 11, 12, 13, 14]) hf } }
  {
  refine WL.pass ((wanted_of rfl rfl (bool_tr rfl hc45)).trans rfl) rfl ?_
  refine WL.pass ((wanted_of rfl rfl (bool_tr rfl hc45)).trans rfl) rfl ?_
  refine WL.pass ((wanted_of rfl rfl (bool_tr rfl hc45)).trans rfl) rfl ?_
  refine WL.pass ((wanted_of rfl rfl (bool_tr rfl hc45)).trans rfl) rfl ?_
  refine WL.pickF (v := .bool false) (bool_tr rfl hc45) rfl ?_
  refine WL.move (v := .bool false) rfl ?_
  refine WL.pass ((wanted_of rfl rfl rfl).trans rfl) rfl ?_
  refine WL.pass ((wanted_of rfl rfl rfl).trans rfl) rfl ?_
  refine WL.pass ((wanted_of rfl rfl rfl).trans rfl) rfl ?_
  refine WL.pickF (v := .bool false) rfl rfl ?_
  refine WL.assign (v := .bool false) rfl ?_
  refine WL.nil ?_
  exact Jk36 false _ _ rfl ((hs.mask []).pick [9, 10, 11, 12, 13]) hf } }
  {
  refine WL.pass ((wanted_of rfl rfl (bool_tr rfl hc41)).trans rfl) rfl ?_
  refine WL.pass ((wanted_of rfl rfl (bool_tr rfl hc41)).trans rfl) rfl ?_
  refine WL.pass ((wanted_of rfl rfl (bool_tr rfl hc41)).trans rfl) rfl ?_
  refine WL.pass ((wanted_of rfl rfl (bool_tr rfl hc41)).trans rfl) rfl ?_
  refine WL.pickF (v := .bool false) (bool_tr rfl hc41) rfl ?_
  refine WL.move (v := .bool false) rfl ?_
  refine WL.pass ((wanted_of rfl rfl rfl).trans rfl) rfl ?_
  refine WL.pass ((wanted_of rfl rfl rfl).trans rfl) rfl ?_
  refine WL.pass ((wanted_of rfl rfl rfl).trans rfl) rfl ?_
  refine WL.pass ((wanted_of rfl rfl rfl).trans rfl) rfl ?_
  refine WL.pickF (v := .bool false) rfl rfl ?_
  refine WL.move (v := .bool false) rfl ?_
  refine WL.pass ((wanted_of rfl rfl rfl).trans rfl) rfl ?_
  refine WL.pass ((wanted_of rfl rfl rfl).trans rfl) rfl ?_
  refine WL.pass ((wanted_of rfl rfl rfl).trans rfl) rfl ?_
  refine WL.pickF (v := .bool false) rfl rfl ?_
  refine WL.assign (v := .bool false) rfl ?_
  refine WL.nil ?_
  exact Jk36 false _ _ rfl ((hs.mask []).pick [8, 9, 10, 11, 12]) hf } }
  {
  refine WL.pass ((wanted_of rfl rfl (bool_tr rfl hc40)).trans rfl) rfl ?_
  refine WL.pass ((wanted_of rfl rfl (bool_tr rfl hc40)).trans rfl) rfl ?_
  refine WL.pass ((wanted_of rfl rfl (bool_tr rfl hc40)).trans rfl) rfl ?_
  refine WL.pickF (v := .bool false) (bool_tr rfl hc40) rfl ?_
  refine WL.move (v := .bool false) rfl ?_
  refine WL.pass ((wanted_of rfl rfl rfl).trans rfl) rfl ?_
  refine WL.pass ((wanted_of rfl rfl rfl).trans rfl) rfl ?_
  refine WL.pass ((wanted_of rfl rfl rfl).trans rfl) rfl ?_
  refine WL.pass ((wanted_of rfl rfl rfl).trans rfl) rfl ?_
  refine WL.pickF (v := .bool false) rfl rfl ?_
  refine WL.move (v := .bool false) rfl ?_
  refine WL.pass ((wanted_of rfl rfl rfl).trans rfl) rfl ?_
  refine WL.pass ((wanted_of rfl rfl rfl).trans rfl) rfl ?_
  refine WL.pass ((wanted_of rfl rfl rfl).trans rfl) rfl ?_
  refine WL.pass ((wanted_of rfl rfl rfl).trans rfl) rfl ?_
  refine WL.pickF (v := .bool false) rfl rfl ?_
  refine WL.move (v := .bool false) rfl ?_
  refine WL.pass ((wanted_of rfl rfl rfl).trans rfl) rfl ?_
  refine WL.pass ((wanted_of rfl rfl rfl).trans rfl) rfl ?_
  refine WL.pass ((wanted_of rfl rfl rfl).trans rfl) rfl ?_
  refine WL.pickF (v := .bool false) rfl rfl ?_
  refine WL.assign (v := .bool false) rfl ?_
  refine WL.nil ?_
  exact Jk36 false _ _ rfl ((hs.mask []).pick [8, 9, 10, 11, 12]) hf } }
  {
  refine WL.pass ((wanted_of rfl rfl (bool_tr rfl hc39)).trans rfl) rfl ?_
  refine WL.pass ((wanted_of rfl rfl (bool_tr rfl hc39)).trans rfl) rfl ?_
  refine WL.pickF (v := .bool false) (bool_tr rfl hc39) rfl ?_
  refine WL.move (v := .bool false) rfl ?_
  refine WL.pass ((wanted_of rfl rfl rfl).trans rfl) rfl ?_
  refine WL.pass ((wanted_of rfl rfl rfl).trans rfl) rfl ?_
  refine WL.pass ((wanted_of rfl rfl rfl).trans rfl) rfl ?_
  refine WL.pickF (v := .bool false) rfl rfl ?_
  refine WL.move (v := .bool false) rfl ?_
  refine WL.pass ((wanted_of rfl rfl rfl).trans rfl) rfl ?_
  refine WL.pass ((wanted_of rfl rfl rfl).trans rfl) rfl ?_
  refine WL.pass ((wanted_of rfl rfl rfl).trans rfl) rfl ?_
  refine WL.pass ((wanted_of rfl rfl rfl).trans rfl) rfl ?_
  refine WL.pickF (v := .bool false) rfl rfl ?_
  refine WL.move (v := .bool false) rfl ?_
  refine WL.pass ((wanted_of rfl rfl rfl).trans rfl) rfl ?_
  refine WL.pass ((wanted_of rfl rfl rfl).trans rfl) rfl ?_
  refine WL.pass ((wanted_of rfl rfl rfl).trans rfl) rfl ?_
  refine WL.pass ((wanted_of rfl rfl rfl).trans rfl) rfl ?_
  refine WL.pickF (v := .bool false) rfl rfl ?_
  refine WL.move (v := .bool false) rfl ?_
  refine WL.pass ((wanted_of rfl rfl rfl).trans rfl) rfl ?_
  refine WL.pass ((wanted_of rfl rfl rfl).trans rfl) rfl ?_
  refine WL.pass ((wanted_of rfl rfl rfl).trans rfl) rfl ?_
  refine WL.pickF (v := .bool false) rfl rfl ?_
  refine WL.assign (v := .bool false) rfl ?_
  refine WL.nil ?_
  exact Jk36 false _ _ rfl ((hs.mask []).pick [8, 9, 10, 11, 12]) hf } }
  {
  refine WL.pass ((wanted_of rfl rfl (bool_tr rfl hc38)).trans rfl) rfl ?_
  refine WL.pickF (v := .bool false) (bool_tr rfl hc38) rfl ?_
  refine WL.move (v := .bool false) rfl ?_
  refine WL.pass ((wanted_of rfl rfl rfl).trans rfl) rfl ?_
  refine WL.pass ((wanted_of rfl rfl rfl).trans rfl) rfl ?_
  refine WL.pickF (v := .bool false) rfl rfl ?_
  refine WL.move (v := .bool false) rfl ?_
  refine WL.pass ((wanted_of rfl rfl rfl).trans rfl) rfl ?_
  refine WL.pass ((wanted_of rfl rfl rfl).trans rfl) rfl ?_
  refine WL.pass ((wanted_of rfl rfl rfl).trans rfl) rfl ?_
  refine WL.pickF (v := .bool false) rfl rfl ?_
  refine WL.move (v := .bool false) rfl ?_
  refine WL.pass ((wanted_of rfl rfl rfl).trans rfl) rfl ?_
  refine WL.pass ((wanted_of rfl rfl rfl).trans rfl) rfl ?_
  refine WL.pass ((wanted_of rfl rfl rfl).trans rfl) rfl ?_
  refine WL.pass ((wanted_of rfl rfl rfl).trans rfl) rfl ?_
  refine WL.pickF (v := .bool false) rfl rfl ?_
  refine WL.move (v := .bool false) rfl ?_
  refine WL.pass ((wanted_of rfl rfl rfl).trans rfl) rfl ?_
  refine WL.pass ((wanted_of rfl rfl rfl).trans rfl) rfl ?_
  refine WL.pass ((wanted_of rfl rfl rfl).trans rfl) rfl ?_
  refine WL.pass ((wanted_of rfl rfl rfl).trans rfl) rfl ?_
  refine WL.pickF (v := .bool false) rfl rfl ?_
  refine WL.move (v := .bool false) rfl ?_
  refine WL.pass ((wanted_of rfl rfl rfl).trans rfl) rfl ?_
  refine WL.pass ((wanted_of rfl rfl rfl).trans rfl) rfl ?_
  refine WL.pass ((wanted_of rfl rfl rfl).trans rfl) rfl ?_
  refine WL.pickF (v := .bool false) rfl rfl ?_
  refine WL.assign (v := .bool false) rfl ?_
  refine WL.nil ?_
  exact Jk36 false _ _ rfl ((hs.mask []).pick [8, 9, 10, 11, 12]) hf } }
  {
  refine WL.pass ((wanted_of rfl rfl (bool_tr rfl hc37)).trans rfl) rfl ?_
  refine WL.pass ((wanted_of rfl rfl (bool_tr rfl hc37)).trans rfl) rfl ?_
  refine WL.pass ((wanted_of rfl rfl (bool_tr rfl hc37)).trans rfl) rfl ?_
  refine WL.pickF (v := .bool false) (bool_tr rfl hc37) rfl ?_
  refine WL.move (v := .bool false) rfl ?_
  refine WL.pass ((wanted_of rfl rfl rfl).trans rfl) rfl ?_
  refine WL.pickF (v := .bool false) rfl rfl ?_
  refine WL.move (v := .bool false) rfl ?_
  refine WL.pass ((wanted_of rfl rfl rfl).trans rfl) rfl ?_
  refine WL.pass ((wanted_of rfl rfl rfl).trans rfl) rfl ?_
  refine WL.pickF (v := .bool false) rfl rfl ?_
  refine WL.move (v := .bool false) rfl ?_
  refine WL.pass ((wanted_of rfl rfl rfl).trans rfl) rfl ?_
  refine WL.pass ((wanted_of rfl rfl rfl).trans rfl) rfl ?_
  refine WL.pass ((wanted_of rfl rfl rfl).trans rfl) rfl ?_
  refine WL.pickF (v := .bool false) rfl rfl ?_
  refine WL.move (v := .bool false) rfl ?_
  refine WL.pass ((wanted_of rfl rfl rfl).trans rfl) rfl ?_
  refine WL.pass ((wanted_of rfl rfl rfl).trans rfl) rfl ?_
  refine WL.pass ((wanted_of rfl rfl rfl).trans rfl) rfl ?_
  refine WL.pass ((wanted_of rfl rfl rfl).trans rfl) rfl ?_
  refine WL.pickF (v := .bool false) rfl rfl ?_
  refine WL.move (v := .bool false) rfl ?_
  refine WL.pass ((wanted_of rfl rfl rfl).trans rfl) rfl ?_
  refine WL.pass ((wanted_of rfl rfl rfl).trans rfl) rfl ?_
  refine WL.pass ((wanted_of rfl rfl rfl).trans rfl) rfl ?_
  refine WL.pass ((wanted_of rfl rfl rfl).trans rfl) rfl ?_
  refine WL.pickF (v := .bool false) rfl rfl ?_
  refine WL.move (v := .bool false) rfl ?_
  refine WL.pass ((wanted_of rfl rfl rfl).trans rfl) rfl ?_
  refine WL.pass ((wanted_of rfl rfl rfl).trans rfl) rfl ?_
  refine WL.pass ((wanted_of rfl rfl rfl).trans rfl) rfl ?_
  refine WL.pickF (v := .bool false) rfl rfl ?_
  refine WL.assign (v := .bool false) rfl ?_
  refine WL.nil ?_
  exact Jk36 false _ _ rfl ((hs.mask []).pick [8, 9, 10, 11, 12]) hf }
theorem eslaw00_Index.calls {ok : Nat → Prop} {w0 : World} {x1 : Int} {x2 : Int}  {r : Int} (hf : eslaw00_Index x1 x2 = some r)  :
    Calls Tryd.prog 10 #[.int .i64 x1, .int .i64 x2] w0 fun e w' => ∃ v, e = .returned v ∧ ∃ y : Unit, v = .int .i64 r ∧ St ok (bz w0) w' [] [] := by
  unfold eslaw00_Index at hf
  refine calls_of_W (fn := Tryd.f10) (N := 14) Tryd.func10 rfl Tryd.ntmps10 rfl ?_
  have hs : St ok (bz w0) w0 [] [] := St.init All.nil
  refine W.seqK fun K3 hK3 => ?_
  refine W.region ?_
  refine WL.assign (v := .int .i64 0) rfl ?_
  refine WL.nil ?_
  refine hK3 _ _ ?_
  refine W.seqK fun K4 hK4 => ?_
  refine W.seqK fun K5 hK5 => ?_
  refine W.region ?_
  refine WL.move (v := .int .i64 x2) rfl ?_
  refine WL.bin (v := .bool (decide (x2 < 1))) rfl rfl (ib_lss _ _ _) ?_
  refine WL.nil ?_
  refine hK5 _ _ ?_
  rcases iteE hf with ⟨hc6, hf⟩ | ⟨hc6, hf⟩
  {
  refine W.cond_true (bool_tr rfl hc6) ?_
  refine W.seqK fun K7 hK7 => ?_
  refine W.region ?_
  refine WL.assign (v := .int .i64 0) rfl ?_
  refine WL.nil ?_
  refine hK7 _ _ ?_
  refine W.ret ?_
  have hr := Option.some.inj hf; subst hr
  exact ⟨_, resOk_one rfl rfl, (), rfl, (hs.mask []).pick []⟩ }
  {
  refine W.cond_false (bool_tr rfl hc6) ?_
  refine W.skip ?_
  refine hK4 _ _ ?_
  refine W.seqK fun K8 hK8 => ?_
  refine W.region ?_
  refine WL.move (v := .int .i64 x1) rfl ?_
  refine WL.move (v := .int .i64 x2) rfl ?_
  obtain ⟨hn9, hf⟩ := guardE hf
  refine WL.bin (v := .int .i64 (Int.tmod x1 x2)) rfl rfl (ib_rem _ _ _ hn9) ?_
  refine WL.move (v := .int .i64 x2) rfl ?_
  obtain ⟨x10, ex10, hf⟩ := letE hf
  refine WL.bin (v := .int .i64 x10) rfl rfl (ib_as ex10 (ib_add _ _ _)) ?_
  refine WL.move (v := .int .i64 x2) rfl ?_
  obtain ⟨hn11, hf⟩ := guardE hf
  refine WL.bin (v := .int .i64 (Int.tmod x10 x2)) rfl rfl (ib_rem _ _ _ hn11) ?_
  refine WL.assign (v := .int .i64 (Int.tmod x10 x2)) rfl ?_
  refine WL.nil ?_
  refine hK8 _ _ ?_
  refine W.ret ?_
  have hr := Option.some.inj hf; subst hr
  exact ⟨_, resOk_one rfl rfl, (), rfl, (hs.mask []).pick []⟩ }
theorem eslaw00_Digit.calls {ok : Nat → Prop} {w0 : World} {x1 : Int} {x2 : Int} {x3 : Int}  {r : Int} (hf : eslaw00_Digit x1 x2 x3 = some r)  :
    Calls Tryd.prog 16 #[.int .i64 x1, .int .i64 x2, .int .i64 x3] w0 fun e w' => ∃ v, e = .returned v ∧ ∃ y : Unit, v = .int .i64 r ∧ St ok (bz w0) w' [] [] := by
  unfold eslaw00_Digit at hf
  refine calls_of_W (fn := Tryd.f16) (N := 22) Tryd.func16 rfl Tryd.ntmps16 rfl ?_
  have hs : St ok (bz w0) w0 [] [] := St.init All.nil
  refine W.seqK fun K4 hK4 => ?_
  refine W.region ?_
  refine WL.assign (v := .int .i64 0) rfl ?_
  refine WL.nil ?_
  refine hK4 _ _ ?_
  refine W.seqK fun K5 hK5 => ?_
  refine W.region ?_
  refine WL.move (v := .int .i64 x1) rfl ?_
  obtain ⟨x6, hxx6, hf⟩ := bindE hf
  refine WL.call (vs := [.int .i64 x1, .int .i64 1099511627776]) hs FN10 ⟨rfl, ⟨rfl, trivial⟩⟩ (fun ok hA => eslaw00_Index.calls (x1 := x1) (x2 := 1099511627776) hxx6) ?_
  rintro _ w hs
  refine WL.assign (v := .int .i64 x6) rfl ?_
  refine WL.nil ?_
  refine hK5 _ _ ?_
  refine W.seqK fun K7 hK7 => ?_
  have Jk10 : ∀ (x9 : Int) (ρ : Env) (w : World), ρ 1 = .int .i64 x2 → ρ 7 = .int .i64 x9 → St ok (bz w0) w [] [] → eslaw00_Digit.j1 x2 x9 = some r → K7 ρ w := by
    intro x9 ρ w h8_1 h8_7 hs hf
    refine hK7 _ _ ?_
    unfold eslaw00_Digit.j1 at hf
    refine W.seqK fun K11 hK11 => ?_
    refine W.region ?_
    refine WL.move (v := .int .i64 x9) h8_7 ?_
    refine WL.move (v := .int .i64 x2) h8_1 ?_
    obtain ⟨hn12, hf⟩ := guardE hf
    refine WL.bin (v := .int .i64 (Int.tmod x9 x2)) rfl rfl (ib_rem _ _ _ hn12) ?_
    refine WL.assign (v := .int .i64 (Int.tmod x9 x2)) rfl ?_
    refine WL.nil ?_
    refine hK11 _ _ ?_
    refine W.ret ?_
    have hr := Option.some.inj hf; subst hr
    exact ⟨_, resOk_one rfl rfl, (), rfl, (hs.mask []).pick []⟩
  refine W.seqK fun K13 hK13 => ?_
  refine W.region ?_
  refine WL.assign (v := .int .i64 0) rfl ?_
  refine WL.nil ?_
  refine hK13 _ _ ?_
  refine W.block ?_
  obtain ⟨bs17, hbs17, hfs17⟩ := bindE hf
  refine W.loop hbs17 (fun s ρ w => match s with | (x15, x16) => ρ 1 = .int .i64 x2 ∧ ρ 2 = .int .i64 x3 ∧ ρ 7 = .int .i64 x15 ∧ ρ 8 = .int .i64 x16 ∧ St ok (bz w0) w [] []) ⟨rfl, rfl, rfl, rfl, (hs.mask []).pick []⟩ ?_
  intro s ρ w os17 hI hf hbbs17
  obtain ⟨x15, x16⟩ := s
  obtain ⟨h14_1, h14_2, h14_7, h14_8, hs⟩ := hI
  unfold eslaw00_Digit.l1 at hf
  refine W.seqK fun K18 hK18 => ?_
  refine W.seqK fun K19 hK19 => ?_
  refine W.region ?_
  refine WL.move (v := .int .i64 x16) h14_8 ?_
  refine WL.move (v := .int .i64 x3) h14_2 ?_
  refine WL.bin (v := .bool (decide (x16 < x3))) rfl rfl (ib_lss _ _ _) ?_
  refine WL.nil ?_
  refine hK19 _ _ ?_
  rcases iteE hf with ⟨hc20, hf⟩ | ⟨hc20, hf⟩
  {
  refine W.cond_true (bool_tr rfl hc20) ?_
  refine W.skip ?_
  refine hK18 _ _ ?_
  refine W.seqK fun K21 hK21 => ?_
  refine W.block ?_
  refine W.region ?_
  refine WL.move (v := .int .i64 x15) h14_7 ?_
  refine WL.move (v := .int .i64 x2) h14_1 ?_
  obtain ⟨hn23, hf⟩ := guardE hf
  obtain ⟨x22, ex22, hf⟩ := letE hf
  refine WL.bin (v := .int .i64 x22) rfl rfl (ib_as ex22 (ib_quo _ _ _ hn23)) ?_
  refine WL.assign (v := .int .i64 x22) rfl ?_
  refine WL.nil ?_
  refine hK21 _ _ ?_
  refine W.region ?_
  refine WL.move (v := .int .i64 x16) h14_8 ?_
  obtain ⟨x24, ex24, hf⟩ := letE hf
  refine WL.bin (v := .int .i64 x24) rfl rfl (ib_as ex24 (ib_add _ _ _)) ?_
  refine WL.assign (v := .int .i64 x24) rfl ?_
  refine WL.nil ?_
  exact ⟨_, (Option.some.inj hf).symm, h14_1, h14_2, rfl, rfl, (hs.mask []).pick []⟩ }
  {
  refine W.cond_false (bool_tr rfl hc20) ?_
  refine W.exit ?_
  have hr := Option.some.inj hf; subst hr
  have hr := hbbs17 _ rfl; subst hr
  have hf := hfs17
  exact Jk10 x15 _ _ h14_1 h14_7 ((hs.mask []).pick []) hf }
end Go.Proofs.YthcohhpmpdijoaaDoor
set_option linter.unusedVariables false
set_option linter.unusedSimpArgs false
set_option linter.unusedSectionVars false
namespace Go.Proofs.YthcohhpmpdijoaaDoorL
open Go Go.RowKit
open Go.ChangeMaps (setBlock)
theorem Off.mono {bs bs' : List Nat} {a b : World} (h : Off bs a b) (k : ∀ x ∈ bs, x ∈ bs') : Off bs' a b := ⟨h.os, h.tape, h.output, h.size, fun i hi hn => h.block i hi fun hx => hn (k i hx)⟩
section
variable {κ β : Type} [BEq κ] [LawfulBEq κ] {kv : κ → Value} {V : Ty β} {ok : Nat → Prop} {w : World}
end
section
variable {P : Program} {N : Nat} {Q : QE} {ρ : Env} {w : World} {w0 : Base} {ok0 : Nat → Prop} {Γ : List It} {Λ : List LObj}
variable {d : Option Tmp} {ty : TypeId} {pos : String} {aft : Array Edge} {gd : Option (Nat × Bool)} {ops : Array Oper} {rest : List Oper}
variable {κ β : Type} [BEq κ] [LawfulBEq κ] {kv : κ → Value} {V : Ty β}
theorem WL.indexAddrA {T E : TypeId} {n : Nat} {x z : Operand} {g j m : Nat} {k : IntKind} {i : Int} {agg : Bool} {sz : Nat} (hx : ρ.ev x = .pointer (some ⟨g, j, none⟩)) (hz : ρ.ev z = .int k i) (hT : P.underlying T = some (.array n E)) (hE : TI P E agg sz) (hi : 0 ≤ i ∧ i < (n : Int)) (hm : j + i.toNat * sz = m)
    (K : WL P N ops Q rest (putE ρ d (.pointer (some ⟨g, m, none⟩))) w)
    (hg : wantedE ops ρ ⟨d, .indexAddr T x z, ty, pos, aft, gd⟩ = true := by rfl) (hd : fits N d = true := by rfl) :
    WL P N ops Q (⟨d, .indexAddr T x z, ty, pos, aft, gd⟩ :: rest) ρ w :=
  WL.value hg hd (v := .pointer (some ⟨g, m, none⟩)) (w' := w) (by
    show (do pure (Next.value (← Instr.indexAt T (ρ.ev x) (ρ.ev z))) : Sem Next).run P w = _
    rw [hx, hz]
    refine exec_v ?_
    unfold Instr.indexAt
    refine (run_bind (x := (k, i)) (w' := w) rfl).trans ?_
    refine (run_bind (run_und hT w)).trans ?_
    refine (run_bind (x := (some ⟨g, j, none⟩, n, E)) (w' := w) rfl).trans ?_
    refine (run_bind (run_und hT w)).trans ?_
    simp only [if_pos hi]
    refine (run_bind (hE.size_ w)).trans ?_
    show Result.ok _ _ = _
    rw [addr_add, hm]) K
end
end Go.Proofs.YthcohhpmpdijoaaDoorL
set_option linter.unusedVariables false
set_option linter.unusedSimpArgs false
namespace Go.Proofs.YthcohhpmpdijoaaDoor
open Go Go.RowKit Go.Proofs.YthcohhpmpdijoaaDoorL
set_option maxRecDepth 100000
set_option maxHeartbeats 4000000
theorem eslaw36_Rules.calls {ok : Nat → Prop} {w0 : World} {x1 : List Int} {a2 : Option Addr} {c3 : Nat} {r : List adversary_Rule} (hf : eslaw36_Rules x1 = some r) (i0 : (vl (tSlice (tInt .i64)) x1 (.slice a2 x1.length c3)).holds ok w0) :
    Calls Tryd.prog 5 #[.slice a2 x1.length c3] w0 fun e w' => ∃ v, e = .returned v ∧ ∃ y : (Option Addr × Nat × Nat), v = .slice y.1 y.2.1 y.2.2 ∧ St ok (bz w0) w' [] [own t_adversary_Rule 32 (.slice y.1 y.2.1 y.2.2) r] := by
  unfold eslaw36_Rules at hf
  refine calls_of_W (fn := Tryd.f5) (N := 56) Tryd.func5 rfl Tryd.ntmps5 rfl ?_
  have hs : St ok (bz w0) w0 [vl (tSlice (tInt .i64)) x1 (.slice a2 x1.length c3)] [] := St.init (All.cons i0 All.nil)
  clear i0
  refine W.seqK fun K4 hK4 => ?_
  refine W.region ?_
  refine WL.assign (v := .slice none 0 0) rfl ?_
  refine WL.nil ?_
  refine hK4 _ _ ?_
  refine W.seqK fun K5 hK5 => ?_
  refine W.region ?_
  refine WL.assign (v := .slice none 0 0) rfl ?_
  refine WL.nil ?_
  refine hK5 _ _ ?_
  refine W.seqK fun K6 hK6 => ?_
  have hs := hs.ownNil t_adversary_Rule 32
  have Jk12 : ∀ (x8 : List adversary_Rule) (a9 : Option Addr) (c10 : Nat) (n11 : Nat) (ρ : Env) (w : World), ρ 3 = .slice a9 n11 c10 → St ok (bz w0) w [] [own t_adversary_Rule 32 (.slice a9 n11 c10) x8] → eslaw36_Rules.j1 x8 = some r → K6 ρ w := by
    intro x8 a9 c10 n11 ρ w h7_3 hs hf
    refine hK6 _ _ ?_
    unfold eslaw36_Rules.j1 at hf
    refine W.seqK fun K13 hK13 => ?_
    refine W.region ?_
    refine WL.move (v := .slice a9 n11 c10) h7_3 ?_
    refine WL.assign (v := .slice a9 n11 c10) rfl ?_
    refine WL.nil ?_
    refine hK13 _ _ ?_
    refine W.ret ?_
    have hr := Option.some.inj hf; subst hr
    exact ⟨_, resOk_one rfl rfl, (a9, n11, c10), rfl, (hs.mask [true]).pick []⟩
  refine W.seqK fun K14 hK14 => ?_
  refine W.region ?_
  refine WL.assign (v := .int .i64 0) rfl ?_
  refine WL.nil ?_
  refine hK14 _ _ ?_
  refine W.block ?_
  obtain ⟨bs21, hbs21, hfs21⟩ := bindE hf
  refine W.loop hbs21 (fun s ρ w => match s with | (x16, x20) => ∃ (a17 : Option Addr), ∃ (c18 : Nat), ∃ (n19 : Nat), ρ 0 = .slice a2 x1.length c3 ∧ ρ 3 = .slice a17 n19 c18 ∧ ρ 4 = .int .i64 x20 ∧ St ok (bz w0) w [vl (tSlice (tInt .i64)) x1 (.slice a2 x1.length c3)] [own t_adversary_Rule 32 (.slice a17 n19 c18) x16]) ⟨none, 0, 0, rfl, rfl, rfl, (hs.mask [true]).pick [0]⟩ ?_
  intro s ρ w os21 hI hf hbbs21
  obtain ⟨x16, x20⟩ := s
  obtain ⟨a17, c18, n19, h15_0, h15_3, h15_4, hs⟩ := hI
  unfold eslaw36_Rules.l1 at hf
  refine W.seqK fun K22 hK22 => ?_
  refine W.seqK fun K23 hK23 => ?_
  have Jk26 : ∀ (x25 : Bool) (ρ : Env) (w : World), ρ 0 = .slice a2 x1.length c3 → ρ 3 = .slice a17 n19 c18 → ρ 4 = .int .i64 x20 → ρ 13 = .bool x25 → St ok (bz w0) w [vl (tSlice (tInt .i64)) x1 (.slice a2 x1.length c3)] [own t_adversary_Rule 32 (.slice a17 n19 c18) x16] → eslaw36_Rules.j4 x1 x16 x20 x25 = some os21 → K23 ρ w := by
    intro x25 ρ w h24_0 h24_3 h24_4 h24_13 hs hf
    refine hK23 _ _ ?_
    unfold eslaw36_Rules.j4 at hf
    rcases iteE hf with ⟨hc27, hf⟩ | ⟨hc27, hf⟩
    {
    refine W.cond_true (bool_tr h24_13 hc27) ?_
    refine W.skip ?_
    refine hK22 _ _ ?_
    refine W.seqK fun K28 hK28 => ?_
    refine W.block ?_
    refine W.seqK fun K29 hK29 => ?_
    obtain ⟨x30, hxx30, hf⟩ := bindE hf
    obtain ⟨x33, hxx33, hf⟩ := bindE hf
    obtain ⟨x34, ex34, hf⟩ := letE hf
    obtain ⟨x35, hxx35, hf⟩ := bindE hf
    obtain ⟨x38, hxx38, hf⟩ := bindE hf
    obtain ⟨x39, ex39, hf⟩ := letE hf
    refine W.any (by kernel_rfl) 14 1 [true, true, true, true, true, true, true, true, true, true, true, true, true, true, false] rfl rfl (poAt [pv (.slice a2 x1.length c3), pv (.int .i64 x20), pq (fun y : Addr => .pointer (some y)) (fun v => [pl (tInt .i64) x30 (adOf v)]) (fun v => []), pv (.int .i64 x30), pv (.int .i64 x33), pv (.int .i64 x34), pv (.slice a2 x1.length c3), pv (.int .i64 x20), pq (fun y : Addr => .pointer (some y)) (fun v => [pl (tInt .i64) x35 (adOf v)]) (fun v => []), pv (.int .i64 x35), pv (.int .i64 x38), pv (.int .i64 x39), pv (.agg ([.int .i64 x34, .int .i64 x39] : List Value).toArray), pq (fun y : Nat => .pointer (some ⟨y, 0, none⟩)) (fun v => []) (fun v => [blk (gOf v) 32 [.int .i64 0, .int .i64 0]])]) (Λ := [own t_adversary_Rule 32 (.slice a17 n19 c18) x16]) hs (by kernel_rfl) (by kernel_rfl) (by kernel_rfl) ⟨⟨⟨⟨⟨⟨⟨⟨⟨⟨⟨⟨⟨⟨trivial, ?_⟩, ?_⟩, ?_⟩, ?_⟩, ?_⟩, ?_⟩, ?_⟩, ?_⟩, ?_⟩, ?_⟩, ?_⟩, ?_⟩, ?_⟩, ?_⟩ ?_
    {
    intro ρ w Γx Λx hs hu hp
    refine WL.move (v := .slice a2 x1.length c3) ((hu 0 rfl).trans h24_0) ?_
    exact WL.nil ⟨rfl, _, rfl, rfl, hs.cutG 0 0⟩ }
    {
    intro ρ w Γx Λx hs hu hp
    refine WL.move (v := .int .i64 x20) ((hu 4 rfl).trans h24_4) ?_
    exact WL.nil ⟨rfl, _, rfl, rfl, hs.cutG 0 0⟩ }
    {
    intro ρ w Γx Λx hs hu hp
    have e41 : ρ 16 = .slice a2 x1.length c3 := (hp 0 rfl).1
    have e42 : ρ 17 = .int .i64 x20 := (hp 1 rfl).1
    refine WL.indexAddr hs (Γx.length + 0) (getApp rfl) UN22 TI3 e41 e42 hxx30 (fun ad31 hs => ?_)
    have hs := hs.add (it := pl (tInt .i64) x30 ad31) fun ok hA => hA.get 0 rfl
    exact WL.nil ⟨rfl, _, rfl, ⟨ad31, rfl⟩, hs.cutG 1 1⟩ }
    {
    intro ρ w Γx Λx hs hu hp
    obtain ⟨⟨ad43, e44r⟩, hm45⟩ := hp 2 rfl
    have e44 : ρ 18 = .pointer (some ad43) := e44r
    rw [e44r] at hm45
    have hs := hs.memo1 (it := pl (tInt .i64) x30 ad43) (List.mem_append.2 (.inl (hm45 _ (List.mem_of_getElem? (i := 0) rfl))))
    refine WL.loadP hs 0 rfl TI3 (.inr rfl) e44 (fun v32 hs => ?_)
    obtain rfl := hs.int 0 rfl
    exact WL.nil ⟨rfl, _, rfl, rfl, hs.cutG 0 2⟩ }
    {
    intro ρ w Γx Λx hs hu hp
    have e46 : ρ 19 = .int .i64 x30 := (hp 3 rfl).1
    refine WL.call (vs := [.int .i64 x30, .int .i64 9, .int .i64 0]) hs FN16 ⟨e46, ⟨rfl, ⟨rfl, trivial⟩⟩⟩ (fun ok hA => eslaw00_Digit.calls (x1 := x30) (x2 := 9) (x3 := 0) hxx33) ?_
    rintro _ w hs
    exact WL.nil ⟨rfl, _, rfl, rfl, hs.cutG 0 0⟩ }
    {
    intro ρ w Γx Λx hs hu hp
    have e47 : ρ 20 = .int .i64 x33 := (hp 4 rfl).1
    refine WL.bin (v := .int .i64 x34) rfl e47 (ib_as ex34 (ib_add _ _ _)) ?_
    exact WL.nil ⟨rfl, _, rfl, rfl, hs.cutG 0 0⟩ }
    {
    intro ρ w Γx Λx hs hu hp
    refine WL.move (v := .slice a2 x1.length c3) ((hu 0 rfl).trans h24_0) ?_
    exact WL.nil ⟨rfl, _, rfl, rfl, hs.cutG 0 0⟩ }
    {
    intro ρ w Γx Λx hs hu hp
    refine WL.move (v := .int .i64 x20) ((hu 4 rfl).trans h24_4) ?_
    exact WL.nil ⟨rfl, _, rfl, rfl, hs.cutG 0 0⟩ }
    {
    intro ρ w Γx Λx hs hu hp
    have e48 : ρ 22 = .slice a2 x1.length c3 := (hp 6 rfl).1
    have e49 : ρ 23 = .int .i64 x20 := (hp 7 rfl).1
    refine WL.indexAddr hs (Γx.length + 0) (getApp rfl) UN22 TI3 e48 e49 hxx35 (fun ad36 hs => ?_)
    have hs := hs.add (it := pl (tInt .i64) x35 ad36) fun ok hA => hA.get 0 rfl
    exact WL.nil ⟨rfl, _, rfl, ⟨ad36, rfl⟩, hs.cutG 1 1⟩ }
    {
    intro ρ w Γx Λx hs hu hp
    obtain ⟨⟨ad50, e51r⟩, hm52⟩ := hp 8 rfl
    have e51 : ρ 24 = .pointer (some ad50) := e51r
    rw [e51r] at hm52
    have hs := hs.memo1 (it := pl (tInt .i64) x35 ad50) (List.mem_append.2 (.inl (hm52 _ (List.mem_of_getElem? (i := 0) rfl))))
    refine WL.loadP hs 0 rfl TI3 (.inr rfl) e51 (fun v37 hs => ?_)
    obtain rfl := hs.int 0 rfl
    exact WL.nil ⟨rfl, _, rfl, rfl, hs.cutG 0 2⟩ }
    {
    intro ρ w Γx Λx hs hu hp
    have e53 : ρ 25 = .int .i64 x35 := (hp 9 rfl).1
    refine WL.call (vs := [.int .i64 x35, .int .i64 6, .int .i64 2]) hs FN16 ⟨e53, ⟨rfl, ⟨rfl, trivial⟩⟩⟩ (fun ok hA => eslaw00_Digit.calls (x1 := x35) (x2 := 6) (x3 := 2) hxx38) ?_
    rintro _ w hs
    exact WL.nil ⟨rfl, _, rfl, rfl, hs.cutG 0 0⟩ }
    {
    intro ρ w Γx Λx hs hu hp
    have e54 : ρ 26 = .int .i64 x38 := (hp 10 rfl).1
    refine WL.bin (v := .int .i64 x39) rfl e54 (ib_as ex39 (ib_add _ _ _)) ?_
    exact WL.nil ⟨rfl, _, rfl, rfl, hs.cutG 0 0⟩ }
    {
    intro ρ w Γx Λx hs hu hp
    have e55 : ρ 21 = .int .i64 x34 := (hp 5 rfl).1
    have e56 : ρ 27 = .int .i64 x39 := (hp 11 rfl).1
    refine WL.build (vs := [(0, .int .i64 x34), (1, .int .i64 x39)]) (cs := [.int .i64 x34, .int .i64 x39]) ⟨⟨rfl, e55⟩, ⟨⟨rfl, e56⟩, trivial⟩⟩ (bld PL32 rfl) ?_
    exact WL.nil ⟨rfl, _, rfl, rfl, hs.cutG 0 0⟩ }
    {
    intro ρ w Γx Λx hs hu hp
    refine WL.alloc hs ZV32 (fun g40 w hs => ?_)
    exact WL.nil ⟨rfl, _, rfl, ⟨g40, rfl⟩, hs.cutG 0 0⟩ }
    {
    intro ρ w hs hu57 hp
    obtain ⟨⟨⟨⟨⟨⟨⟨⟨⟨⟨⟨⟨⟨⟨_, hp0_⟩, hp1_⟩, hp2_⟩, hp3_⟩, hp4_⟩, hp5_⟩, hp6_⟩, hp7_⟩, hp8_⟩, hp9_⟩, hp10_⟩, hp11_⟩, hp12_⟩, hp13_⟩ := hp
    have hs : St ok (bz w0) w [pl (tInt .i64) x35 (adOf (ρ 24)), pl (tInt .i64) x30 (adOf (ρ 18)), vl (tSlice (tInt .i64)) x1 (.slice a2 x1.length c3)] [blk (gOf ((ρ 5))) 32 [.int .i64 0, .int .i64 0], own t_adversary_Rule 32 (.slice a17 n19 c18) x16] := hs
    obtain ⟨g58, e59⟩ := hp13_
    have e59 : ρ 5 = .pointer (some ⟨g58, 0, none⟩) := e59
    try rw [e59] at hs
    have e60 : ρ 28 = .agg ([.int .i64 x34, .int .i64 x39] : List Value).toArray := hp12_
    have e61 : ρ 27 = .int .i64 x39 := hp11_
    have e62 : ρ 26 = .int .i64 x38 := hp10_
    have e63 : ρ 25 = .int .i64 x35 := hp9_
    obtain ⟨ad64, e65⟩ := hp8_
    have e65 : ρ 24 = .pointer (some ad64) := e65
    try rw [e65] at hs
    have e66 : ρ 23 = .int .i64 x20 := hp7_
    have e67 : ρ 22 = .slice a2 x1.length c3 := hp6_
    have e68 : ρ 21 = .int .i64 x34 := hp5_
    have e69 : ρ 20 = .int .i64 x33 := hp4_
    have e70 : ρ 19 = .int .i64 x30 := hp3_
    obtain ⟨ad71, e72⟩ := hp2_
    have e72 : ρ 18 = .pointer (some ad71) := e72
    try rw [e72] at hs
    have e73 : ρ 17 = .int .i64 x20 := hp1_
    have e74 : ρ 16 = .slice a2 x1.length c3 := hp0_
    refine WA.step [14] (by kernel_rfl) (by simp) ⟨?_, trivial⟩
    refine WL.storeAll (vs := [.int .i64 x34, .int .i64 x39]) hs 0 rfl TI32 e59 e60 rfl rfl (ones_of rfl) rfl (fun w hs => ?_)
    refine WL.nil ⟨rfl, _, rfl, ?_⟩
    refine WA.done (by kernel_rfl) ?_
    refine hK29 _ _ ?_
    refine W.seqK fun K75 hK75 => ?_
    have Jk78 : ∀ (x77 : Int) (ρ : Env) (w : World), ρ 0 = .slice a2 x1.length c3 → ρ 3 = .slice a17 n19 c18 → ρ 4 = .int .i64 x20 → ρ 5 = .pointer (some ⟨g58, 0, none⟩) → St ok (bz w0) w [vl (tSlice (tInt .i64)) x1 (.slice a2 x1.length c3)] [blk g58 32 [.int .i64 x34, .int .i64 x77], own t_adversary_Rule 32 (.slice a17 n19 c18) x16] → eslaw36_Rules.j3 x1 x16 x20 x34 x77 = some os21 → K75 ρ w := by
      intro x77 ρ w h76_0 h76_3 h76_4 h76_5 hs hf
      refine hK75 _ _ ?_
      unfold eslaw36_Rules.j3 at hf
      refine W.seqK fun K79 hK79 => ?_
      have Jk83 : ∀ (x81 : Int) (x82 : Int) (ρ : Env) (w : World), ρ 0 = .slice a2 x1.length c3 → ρ 3 = .slice a17 n19 c18 → ρ 4 = .int .i64 x20 → ρ 5 = .pointer (some ⟨g58, 0, none⟩) → St ok (bz w0) w [vl (tSlice (tInt .i64)) x1 (.slice a2 x1.length c3)] [blk g58 32 [.int .i64 x81, .int .i64 x82], own t_adversary_Rule 32 (.slice a17 n19 c18) x16] → eslaw36_Rules.j2 x16 x20 x81 x82 = some os21 → K79 ρ w := by
        intro x81 x82 ρ w h80_0 h80_3 h80_4 h80_5 hs hf
        refine hK79 _ _ ?_
        unfold eslaw36_Rules.j2 at hf
        refine W.region ?_
        refine WL.move (v := .slice a17 n19 c18) h80_3 ?_
        refine WL.loadN (vs := [.int .i64 x81, .int .i64 x82]) hs 0 rfl TI32 h80_5 rfl rfl ?_
        refine WL.buildSlice (n := 1) (vs := [(0, .agg ([.int .i64 x81, .int .i64 x82] : List Value).toArray)]) (cs := [.int .i64 x81, .int .i64 x82]) hs ⟨⟨rfl, rfl⟩, trivial⟩ (bls PS24 (by decide) rfl) (fun g84 w hs => ?_)
        obtain ⟨x85, hxx85, hf⟩ := bindE hf
        obtain ⟨hbx85, hex85⟩ := appE hxx85
        refine WL.append (ys := [(⟨x81, x82⟩ : adversary_Rule)]) (zs := x85) hs 2 rfl 0 rfl UN24 EI32 rfl rfl (fun ok hA => (Cells.one (T := t_adversary_Rule) (show t_adversary_Rule.R ok _ (⟨x81, x82⟩ : adversary_Rule) _ from ⟨[.int .i64 x81], [.int .i64 x82], rfl, rfl, rfl⟩))) hbx85 (by omega) hex85 (fun v86 w hs => ?_)
        obtain ⟨a87, n89, c88, rfl⟩ := hs.ownv3 2 rfl
        refine WL.assign (v := .slice a87 n89 c88) rfl ?_
        refine WL.nil ?_
        refine hK28 _ _ ?_
        refine W.region ?_
        refine WL.move (v := .int .i64 x20) h80_4 ?_
        obtain ⟨x90, ex90, hf⟩ := letE hf
        refine WL.bin (v := .int .i64 x90) rfl rfl (ib_as ex90 (ib_add _ _ _)) ?_
        refine WL.assign (v := .int .i64 x90) rfl ?_
        refine WL.nil ?_
        exact ⟨_, (Option.some.inj hf).symm, a87, c88, n89, h80_0, rfl, rfl, (hs.mask [false, false, true]).pick [0]⟩
      refine W.seqK fun K91 hK91 => ?_
      refine W.region ?_
      refine WL.move (v := .slice a2 x1.length c3) h76_0 ?_
      refine WL.move (v := .int .i64 x20) h76_4 ?_
      obtain ⟨x92, hxx92, hf⟩ := bindE hf
      refine WL.indexAddr hs 0 rfl UN22 TI3 rfl rfl hxx92 (fun ad93 hs => ?_)
      refine WL.loadP hs 0 rfl TI3 (.inr rfl) rfl (fun v94 hs => ?_)
      obtain rfl := hs.int 0 rfl
      obtain ⟨x95, hxx95, hf⟩ := bindE hf
      refine WL.call (vs := [.int .i64 x92, .int .i64 61]) hs FN10 ⟨rfl, ⟨rfl, trivial⟩⟩ (fun ok hA => eslaw00_Index.calls (x1 := x92) (x2 := 61) hxx95) ?_
      rintro _ w hs
      refine WL.bin (v := .bool (x95 == 60)) rfl rfl (ib_eql _ _ _) ?_
      refine WL.nil ?_
      refine hK91 _ _ ?_
      rcases iteE hf with ⟨hc96, hf⟩ | ⟨hc96, hf⟩
      {
      refine W.cond_true (bool_tr rfl hc96) ?_
      obtain ⟨x97, hxx97, hf⟩ := bindE hf
      obtain ⟨x100, hxx100, hf⟩ := bindE hf
      obtain ⟨x101, hxx101, hf⟩ := bindE hf
      obtain ⟨x104, hxx104, hf⟩ := bindE hf
      obtain ⟨x105, ex105, hf⟩ := letE hf
      refine W.any (by kernel_rfl) 12 1 [true, true, true, true, true, true, true, true, true, true, true, true, false] rfl rfl (poAt [pv (.slice a2 x1.length c3), pv (.int .i64 x20), pq (fun y : Addr => .pointer (some y)) (fun v => [pl (tInt .i64) x97 (adOf v)]) (fun v => []), pv (.int .i64 x97), pv (.int .i64 x100), pv (.slice a2 x1.length c3), pv (.int .i64 x20), pq (fun y : Addr => .pointer (some y)) (fun v => [pl (tInt .i64) x101 (adOf v)]) (fun v => []), pv (.int .i64 x101), pv (.int .i64 x104), pv (.int .i64 x105), pv (.agg ([.int .i64 x100, .int .i64 x105] : List Value).toArray)]) (Λ := [blk g58 32 [.int .i64 x34, .int .i64 x77], own t_adversary_Rule 32 (.slice a17 n19 c18) x16]) hs (by kernel_rfl) (by kernel_rfl) (by kernel_rfl) ⟨⟨⟨⟨⟨⟨⟨⟨⟨⟨⟨⟨trivial, ?_⟩, ?_⟩, ?_⟩, ?_⟩, ?_⟩, ?_⟩, ?_⟩, ?_⟩, ?_⟩, ?_⟩, ?_⟩, ?_⟩ ?_
      {
      intro ρ w Γx Λx hs hu hp
      refine WL.move (v := .slice a2 x1.length c3) ((hu 0 rfl).trans h76_0) ?_
      exact WL.nil ⟨rfl, _, rfl, rfl, hs.cutG 0 0⟩ }
      {
      intro ρ w Γx Λx hs hu hp
      refine WL.move (v := .int .i64 x20) ((hu 4 rfl).trans h76_4) ?_
      exact WL.nil ⟨rfl, _, rfl, rfl, hs.cutG 0 0⟩ }
      {
      intro ρ w Γx Λx hs hu hp
      have e106 : ρ 39 = .slice a2 x1.length c3 := (hp 0 rfl).1
      have e107 : ρ 40 = .int .i64 x20 := (hp 1 rfl).1
      refine WL.indexAddr hs (Γx.length + 2) (getApp rfl) UN22 TI3 e106 e107 hxx97 (fun ad98 hs => ?_)
      have hs := hs.add (it := pl (tInt .i64) x97 ad98) fun ok hA => hA.get 0 rfl
      exact WL.nil ⟨rfl, _, rfl, ⟨ad98, rfl⟩, hs.cutG 1 1⟩ }
      {
      intro ρ w Γx Λx hs hu hp
      obtain ⟨⟨ad108, e109r⟩, hm110⟩ := hp 2 rfl
      have e109 : ρ 41 = .pointer (some ad108) := e109r
      rw [e109r] at hm110
      have hs := hs.memo1 (it := pl (tInt .i64) x97 ad108) (List.mem_append.2 (.inl (hm110 _ (List.mem_of_getElem? (i := 0) rfl))))
      refine WL.loadP hs 0 rfl TI3 (.inr rfl) e109 (fun v99 hs => ?_)
      obtain rfl := hs.int 0 rfl
      exact WL.nil ⟨rfl, _, rfl, rfl, hs.cutG 0 2⟩ }
      {
      intro ρ w Γx Λx hs hu hp
      have e111 : ρ 42 = .int .i64 x97 := (hp 3 rfl).1
      refine WL.call (vs := [.int .i64 x97, .int .i64 12, .int .i64 1]) hs FN16 ⟨e111, ⟨rfl, ⟨rfl, trivial⟩⟩⟩ (fun ok hA => eslaw00_Digit.calls (x1 := x97) (x2 := 12) (x3 := 1) hxx100) ?_
      rintro _ w hs
      exact WL.nil ⟨rfl, _, rfl, rfl, hs.cutG 0 0⟩ }
      {
      intro ρ w Γx Λx hs hu hp
      refine WL.move (v := .slice a2 x1.length c3) ((hu 0 rfl).trans h76_0) ?_
      exact WL.nil ⟨rfl, _, rfl, rfl, hs.cutG 0 0⟩ }
      {
      intro ρ w Γx Λx hs hu hp
      refine WL.move (v := .int .i64 x20) ((hu 4 rfl).trans h76_4) ?_
      exact WL.nil ⟨rfl, _, rfl, rfl, hs.cutG 0 0⟩ }
      {
      intro ρ w Γx Λx hs hu hp
      have e112 : ρ 44 = .slice a2 x1.length c3 := (hp 5 rfl).1
      have e113 : ρ 45 = .int .i64 x20 := (hp 6 rfl).1
      refine WL.indexAddr hs (Γx.length + 2) (getApp rfl) UN22 TI3 e112 e113 hxx101 (fun ad102 hs => ?_)
      have hs := hs.add (it := pl (tInt .i64) x101 ad102) fun ok hA => hA.get 0 rfl
      exact WL.nil ⟨rfl, _, rfl, ⟨ad102, rfl⟩, hs.cutG 1 1⟩ }
      {
      intro ρ w Γx Λx hs hu hp
      obtain ⟨⟨ad114, e115r⟩, hm116⟩ := hp 7 rfl
      have e115 : ρ 46 = .pointer (some ad114) := e115r
      rw [e115r] at hm116
      have hs := hs.memo1 (it := pl (tInt .i64) x101 ad114) (List.mem_append.2 (.inl (hm116 _ (List.mem_of_getElem? (i := 0) rfl))))
      refine WL.loadP hs 0 rfl TI3 (.inr rfl) e115 (fun v103 hs => ?_)
      obtain rfl := hs.int 0 rfl
      exact WL.nil ⟨rfl, _, rfl, rfl, hs.cutG 0 2⟩ }
      {
      intro ρ w Γx Λx hs hu hp
      have e117 : ρ 47 = .int .i64 x101 := (hp 8 rfl).1
      refine WL.call (vs := [.int .i64 x101, .int .i64 16, .int .i64 3]) hs FN16 ⟨e117, ⟨rfl, ⟨rfl, trivial⟩⟩⟩ (fun ok hA => eslaw00_Digit.calls (x1 := x101) (x2 := 16) (x3 := 3) hxx104) ?_
      rintro _ w hs
      exact WL.nil ⟨rfl, _, rfl, rfl, hs.cutG 0 0⟩ }
      {
      intro ρ w Γx Λx hs hu hp
      have e118 : ρ 48 = .int .i64 x104 := (hp 9 rfl).1
      refine WL.bin (v := .int .i64 x105) e118 rfl (ib_as ex105 (ib_mul _ _ _)) ?_
      exact WL.nil ⟨rfl, _, rfl, rfl, hs.cutG 0 0⟩ }
      {
      intro ρ w Γx Λx hs hu hp
      have e119 : ρ 43 = .int .i64 x100 := (hp 4 rfl).1
      have e120 : ρ 49 = .int .i64 x105 := (hp 10 rfl).1
      refine WL.build (vs := [(0, .int .i64 x100), (1, .int .i64 x105)]) (cs := [.int .i64 x100, .int .i64 x105]) ⟨⟨rfl, e119⟩, ⟨⟨rfl, e120⟩, trivial⟩⟩ (bld PL32 rfl) ?_
      exact WL.nil ⟨rfl, _, rfl, rfl, hs.cutG 0 0⟩ }
      {
      intro ρ w hs hu121 hp
      obtain ⟨⟨⟨⟨⟨⟨⟨⟨⟨⟨⟨⟨_, hp0_⟩, hp1_⟩, hp2_⟩, hp3_⟩, hp4_⟩, hp5_⟩, hp6_⟩, hp7_⟩, hp8_⟩, hp9_⟩, hp10_⟩, hp11_⟩ := hp
      have hs : St ok (bz w0) w [pl (tInt .i64) x101 (adOf (ρ 46)), pl (tInt .i64) x97 (adOf (ρ 41)), vl (tInt .i64) x92 (.int .i64 x92), pl (tInt .i64) x92 ad93, vl (tSlice (tInt .i64)) x1 (.slice a2 x1.length c3)] [blk g58 32 [.int .i64 x34, .int .i64 x77], own t_adversary_Rule 32 (.slice a17 n19 c18) x16] := hs
      have e122 : ρ 50 = .agg ([.int .i64 x100, .int .i64 x105] : List Value).toArray := hp11_
      have e123 : ρ 49 = .int .i64 x105 := hp10_
      have e124 : ρ 48 = .int .i64 x104 := hp9_
      have e125 : ρ 47 = .int .i64 x101 := hp8_
      obtain ⟨ad126, e127⟩ := hp7_
      have e127 : ρ 46 = .pointer (some ad126) := e127
      try rw [e127] at hs
      have e128 : ρ 45 = .int .i64 x20 := hp6_
      have e129 : ρ 44 = .slice a2 x1.length c3 := hp5_
      have e130 : ρ 43 = .int .i64 x100 := hp4_
      have e131 : ρ 42 = .int .i64 x97 := hp3_
      obtain ⟨ad132, e133⟩ := hp2_
      have e133 : ρ 41 = .pointer (some ad132) := e133
      try rw [e133] at hs
      have e134 : ρ 40 = .int .i64 x20 := hp1_
      have e135 : ρ 39 = .slice a2 x1.length c3 := hp0_
      refine WA.step [12] (by kernel_rfl) (by simp) ⟨?_, trivial⟩
      refine WL.storeAll (vs := [.int .i64 x100, .int .i64 x105]) hs 0 rfl TI32 ((hu121 5 rfl).trans h76_5) e122 rfl rfl (ones_of rfl) rfl (fun w hs => ?_)
      refine WL.nil ⟨rfl, _, rfl, ?_⟩
      refine WA.done (by kernel_rfl) ?_
      exact Jk83 x100 x105 _ _ ((hu121 0 rfl).trans h76_0) ((hu121 3 rfl).trans h76_3) ((hu121 4 rfl).trans h76_4) ((hu121 5 rfl).trans h76_5) ((hs.mask [true, true]).pick [4]) hf } }
      {
      refine W.cond_false (bool_tr rfl hc96) ?_
      refine W.skip ?_
      exact Jk83 x34 x77 _ _ h76_0 h76_3 h76_4 h76_5 ((hs.mask [true, true]).pick [2]) hf }
    refine W.seqK fun K136 hK136 => ?_
    refine W.region ?_
    refine WL.fieldAddr (m := 0) e59 FA32_0 rfl ?_
    refine WL.load1 (v := .int .i64 x34) hs 0 rfl TI3 rfl rfl ?_
    refine WL.bin (v := .bool (decide (7 ≤ x34))) rfl rfl (ib_geq _ _ _) ?_
    refine WL.nil ?_
    refine hK136 _ _ ?_
    rcases iteE hf with ⟨hc137, hf⟩ | ⟨hc137, hf⟩
    {
    refine W.cond_true (bool_tr rfl hc137) ?_
    refine W.region ?_
    refine WL.fieldAddr (m := 1) e59 FA32_1 rfl ?_
    refine WL.store (vs := [.int .i64 0]) (cs' := [.int .i64 x34, .int .i64 0]) hs 0 rfl TI3 rfl rfl rfl rfl (ones_of rfl) (Nat.le_of_ble_eq_true rfl) rfl (fun w hs => ?_)
    refine WL.nil ?_
    exact Jk78 0 _ _ ((hu57 0 rfl).trans h24_0) ((hu57 3 rfl).trans h24_3) ((hu57 4 rfl).trans h24_4) e59 ((hs.mask [true, true]).pick [2]) hf }
    {
    refine W.cond_false (bool_tr rfl hc137) ?_
    refine W.skip ?_
    exact Jk78 x39 _ _ ((hu57 0 rfl).trans h24_0) ((hu57 3 rfl).trans h24_3) ((hu57 4 rfl).trans h24_4) e59 ((hs.mask [true, true]).pick [2]) hf } } }
    {
    refine W.cond_false (bool_tr h24_13 hc27) ?_
    refine W.exit ?_
    have hr := Option.some.inj hf; subst hr
    have hr := hbbs21 _ rfl; subst hr
    have hf := hfs21
    exact Jk12 x16 a17 c18 n19 _ _ h24_3 ((hs.mask [true]).pick []) hf }
  refine W.region ?_
  refine WL.move (v := .int .i64 x20) h15_4 ?_
  refine WL.move (v := .slice a2 x1.length c3) h15_0 ?_
  refine WL.len (v := .slice a2 x1.length c3) rfl (len_slice UN22) ?_
  refine WL.bin (v := .bool (decide (x20 < (x1.length : Int)))) rfl rfl (ib_lss _ _ _) ?_
  refine WL.move (v := .bool (decide (x20 < (x1.length : Int)))) rfl ?_
  rcases iteE hf with ⟨hc138, hf⟩ | ⟨hc138, hf⟩
  {
  refine WL.move (v := .int .i64 x20) h15_4 ?_ (hg := (wanted_of rfl rfl (bool_tr rfl hc138)).trans rfl)
  refine WL.bin (v := .bool (decide (x20 < 20))) rfl rfl (ib_lss _ _ _) ?_ (hg := (wanted_of rfl rfl (bool_tr rfl hc138)).trans rfl)
  refine WL.pickT (v := .bool (decide (x20 < 20))) (bool_tr rfl hc138) rfl ?_
  refine WL.nil ?_
  exact Jk26 (decide (x20 < 20)) _ _ h15_0 h15_3 h15_4 rfl ((hs.mask [true]).pick [0]) hf }
  {
  refine WL.pass ((wanted_of rfl rfl (bool_tr rfl hc138)).trans rfl) rfl ?_
  refine WL.pass ((wanted_of rfl rfl (bool_tr rfl hc138)).trans rfl) rfl ?_
  refine WL.pickF (v := .bool false) (bool_tr rfl hc138) rfl ?_
  refine WL.nil ?_
  exact Jk26 false _ _ h15_0 h15_3 h15_4 rfl ((hs.mask [true]).pick [0]) hf }
theorem esref36_ValidateRules.calls {ok : Nat → Prop} {w0 : World} {x1 : List adversary_Rule} {a2 : Option Addr} {c3 : Nat} {r : Int} (hf : esref36_ValidateRules x1 = some r) (i0 : (vl (tSlice t_adversary_Rule) x1 (.slice a2 x1.length c3)).holds ok w0) :
    Calls Tryd.prog 8 #[.slice a2 x1.length c3] w0 fun e w' => ∃ v, e = .returned v ∧ ∃ y : Unit, v = .int .i64 r ∧ St ok (bz w0) w' [] [] := by
  unfold esref36_ValidateRules at hf
  refine calls_of_W (fn := Tryd.f8) (N := 49) Tryd.func8 rfl Tryd.ntmps8 rfl ?_
  have hs : St ok (bz w0) w0 [vl (tSlice t_adversary_Rule) x1 (.slice a2 x1.length c3)] [] := St.init (All.cons i0 All.nil)
  clear i0
  refine W.seqK fun K4 hK4 => ?_
  refine W.region ?_
  refine WL.assign (v := .int .i64 0) rfl ?_
  refine WL.nil ?_
  refine hK4 _ _ ?_
  refine W.seqK fun K5 hK5 => ?_
  refine W.seqK fun K6 hK6 => ?_
  refine W.region ?_
  refine WL.move (v := .slice a2 x1.length c3) rfl ?_
  refine WL.len (v := .slice a2 x1.length c3) rfl (len_slice UN24) ?_
  refine WL.bin (v := .bool (decide (16 < (x1.length : Int)))) rfl rfl (ib_gtr _ _ _) ?_
  refine WL.nil ?_
  refine hK6 _ _ ?_
  rcases iteE hf with ⟨hc7, hf⟩ | ⟨hc7, hf⟩
  {
  refine W.cond_true (bool_tr rfl hc7) ?_
  refine W.seqK fun K8 hK8 => ?_
  refine W.region ?_
  refine WL.assign (v := .int .i64 3) rfl ?_
  refine WL.nil ?_
  refine hK8 _ _ ?_
  refine W.ret ?_
  have hr := Option.some.inj hf; subst hr
  exact ⟨_, resOk_one rfl rfl, (), rfl, (hs.mask []).pick []⟩ }
  {
  refine W.cond_false (bool_tr rfl hc7) ?_
  refine W.skip ?_
  refine hK5 _ _ ?_
  refine W.seqK fun K9 hK9 => ?_
  have Jk11 : ∀  (ρ : Env) (w : World), St ok (bz w0) w [] [] → esref36_ValidateRules.j1 = some r → K9 ρ w := by
    intro  ρ w  hs hf
    refine hK9 _ _ ?_
    unfold esref36_ValidateRules.j1 at hf
    refine W.seqK fun K12 hK12 => ?_
    refine W.region ?_
    refine WL.assign (v := .int .i64 0) rfl ?_
    refine WL.nil ?_
    refine hK12 _ _ ?_
    refine W.ret ?_
    have hr := Option.some.inj hf; subst hr
    exact ⟨_, resOk_one rfl rfl, (), rfl, (hs.mask []).pick []⟩
  refine W.seqK fun K13 hK13 => ?_
  refine W.region ?_
  refine WL.assign (v := .int .i64 0) rfl ?_
  refine WL.nil ?_
  refine hK13 _ _ ?_
  refine W.block ?_
  obtain ⟨bs16, hbs16, hfs16⟩ := bindE hf
  refine W.loop hbs16 (fun s ρ w => match s with | x15 => ρ 0 = .slice a2 x1.length c3 ∧ ρ 3 = .int .i64 x15 ∧ St ok (bz w0) w [vl (tSlice t_adversary_Rule) x1 (.slice a2 x1.length c3)] []) ⟨rfl, rfl, (hs.mask []).pick [0]⟩ ?_
  intro x15 ρ w os16 hI hf hbbs16
  obtain ⟨h14_0, h14_3, hs⟩ := hI
  unfold esref36_ValidateRules.l1 at hf
  refine W.seqK fun K17 hK17 => ?_
  refine W.seqK fun K18 hK18 => ?_
  refine W.region ?_
  refine WL.move (v := .int .i64 x15) h14_3 ?_
  refine WL.move (v := .slice a2 x1.length c3) h14_0 ?_
  refine WL.len (v := .slice a2 x1.length c3) rfl (len_slice UN24) ?_
  refine WL.bin (v := .bool (decide (x15 < (x1.length : Int)))) rfl rfl (ib_lss _ _ _) ?_
  refine WL.nil ?_
  refine hK18 _ _ ?_
  rcases iteE hf with ⟨hc19, hf⟩ | ⟨hc19, hf⟩
  {
  refine W.cond_true (bool_tr rfl hc19) ?_
  refine W.skip ?_
  refine hK17 _ _ ?_
  refine W.seqK fun K20 hK20 => ?_
  refine W.block ?_
  refine W.seqK fun K21 hK21 => ?_
  refine W.region ?_
  refine WL.move (v := .slice a2 x1.length c3) h14_0 ?_
  refine WL.move (v := .int .i64 x15) h14_3 ?_
  obtain ⟨x22, hxx22, hf⟩ := bindE hf
  refine WL.indexAddr hs 0 rfl UN24 TI32 rfl rfl hxx22 (fun ad23 hs => ?_)
  refine WL.loadP hs 0 rfl TI32 (.inl rfl) rfl (fun v24 hs => ?_)
  obtain ⟨cs25, hl26, rfl⟩ := hs.aggv (n := 2) 0 rfl rfl rfl
  refine WL.alloc hs ZV32 (fun g27 w hs => ?_)
  refine WL.storeAll (vs := cs25) hs 0 rfl TI32 rfl rfl rfl hl26 (hs.ones 0 rfl rfl) rfl (fun w hs => ?_)
  refine WL.nil ?_
  refine hK21 _ _ ?_
  refine W.seqK fun K28 hK28 => ?_
  refine W.seqK fun K29 hK29 => ?_
  have Jk32 : ∀ (x31 : Bool) (ρ : Env) (w : World), ρ 0 = .slice a2 x1.length c3 → ρ 3 = .int .i64 x15 → ρ 4 = .pointer (some ⟨g27, 0, none⟩) → ρ 25 = .bool x31 → St ok (bz w0) w [vl (tSlice t_adversary_Rule) x1 (.slice a2 x1.length c3), vl t_adversary_Rule x22 (.agg cs25.toArray)] [blk g27 32 cs25] → esref36_ValidateRules.j3 x15 x22 x31 = some os16 → K29 ρ w := by
    intro x31 ρ w h30_0 h30_3 h30_4 h30_25 hs hf
    refine hK29 _ _ ?_
    unfold esref36_ValidateRules.j3 at hf
    rcases iteE hf with ⟨hc33, hf⟩ | ⟨hc33, hf⟩
    {
    refine W.cond_true (bool_tr h30_25 hc33) ?_
    refine W.seqK fun K34 hK34 => ?_
    refine W.region ?_
    refine WL.assign (v := .int .i64 10) rfl ?_
    refine WL.nil ?_
    refine hK34 _ _ ?_
    refine W.ret ?_
    have hr := Option.some.inj hf; subst hr
    have hr := hbbs16 _ rfl; subst hr
    have hf := hfs16
    have hr := Option.some.inj hf; subst hr
    exact ⟨_, resOk_one rfl rfl, (), rfl, (hs.mask []).pick []⟩ }
    {
    refine W.cond_false (bool_tr h30_25 hc33) ?_
    refine W.skip ?_
    refine hK28 _ _ ?_
    refine W.seqK fun K35 hK35 => ?_
    have Jk38 : ∀ (x37 : Bool) (ρ : Env) (w : World), ρ 0 = .slice a2 x1.length c3 → ρ 3 = .int .i64 x15 → ρ 48 = .bool x37 → St ok (bz w0) w [vl (tSlice t_adversary_Rule) x1 (.slice a2 x1.length c3)] [] → esref36_ValidateRules.j2 x15 x37 = some os16 → K35 ρ w := by
      intro x37 ρ w h36_0 h36_3 h36_48 hs hf
      refine hK35 _ _ ?_
      unfold esref36_ValidateRules.j2 at hf
      rcases iteE hf with ⟨hc39, hf⟩ | ⟨hc39, hf⟩
      {
      refine W.cond_true (bool_tr h36_48 hc39) ?_
      refine W.seqK fun K40 hK40 => ?_
      refine W.region ?_
      refine WL.assign (v := .int .i64 9) rfl ?_
      refine WL.nil ?_
      refine hK40 _ _ ?_
      refine W.ret ?_
      have hr := Option.some.inj hf; subst hr
      have hr := hbbs16 _ rfl; subst hr
      have hf := hfs16
      have hr := Option.some.inj hf; subst hr
      exact ⟨_, resOk_one rfl rfl, (), rfl, (hs.mask []).pick []⟩ }
      {
      refine W.cond_false (bool_tr h36_48 hc39) ?_
      refine W.skip ?_
      refine hK20 _ _ ?_
      refine W.region ?_
      refine WL.move (v := .int .i64 x15) h36_3 ?_
      obtain ⟨x41, ex41, hf⟩ := letE hf
      refine WL.bin (v := .int .i64 x41) rfl rfl (ib_as ex41 (ib_add _ _ _)) ?_
      refine WL.assign (v := .int .i64 x41) rfl ?_
      refine WL.nil ?_
      exact ⟨_, (Option.some.inj hf).symm, h36_0, rfl, (hs.mask []).pick [0]⟩ }
    refine W.region ?_
    refine WL.fieldAddr (m := 0) h30_4 FA32_0 rfl ?_
    refine WL.loadF (z := x22.Kind) F_adversary_Rule_Kind hs 0 rfl 1 rfl rfl TI3 (.inr rfl) rfl rfl (fun v42 hs => ?_)
    obtain rfl := hs.int 0 rfl
    refine WL.bin (v := .bool (decide (x22.Kind ≤ 6))) rfl rfl (ib_leq _ _ _) ?_
    refine WL.move (v := .bool (decide (x22.Kind ≤ 6))) rfl ?_
    rcases iteE hf with ⟨hc43, hf⟩ | ⟨hc43, hf⟩
    {
    refine WL.fieldAddr (m := 1) h30_4 FA32_1 rfl ?_ (hg := (wanted_of rfl rfl (bool_tr rfl hc43)).trans rfl)
    refine WL.loadF (z := x22.Arg) F_adversary_Rule_Arg hs 0 rfl 2 rfl rfl TI3 (.inr rfl) rfl rfl (fun v44 hs => ?_) (hg := (wanted_of rfl rfl (bool_tr rfl hc43)).trans rfl)
    obtain rfl := hs.int 0 rfl
    refine WL.bin (v := .bool (decide (x22.Arg < 1))) rfl rfl (ib_lss _ _ _) ?_ (hg := (wanted_of rfl rfl (bool_tr rfl hc43)).trans rfl)
    refine WL.move (v := .bool (decide (x22.Arg < 1))) rfl ?_ (hg := (wanted_of rfl rfl (bool_tr rfl hc43)).trans rfl)
    rcases iteE hf with ⟨hc45, hf⟩ | ⟨hc45, hf⟩
    {
    refine WL.pass ((wanted_of rfl rfl (bool_tr rfl hc45)).trans rfl) rfl ?_
    refine WL.pass ((wanted_of rfl rfl (bool_tr rfl hc45)).trans rfl) rfl ?_
    refine WL.pass ((wanted_of rfl rfl (bool_tr rfl hc45)).trans rfl) rfl ?_
    refine WL.pickT (v := .bool true) (bool_tr rfl hc45) rfl ?_ (hg := (wanted_of rfl rfl (bool_tr rfl hc43)).trans rfl)
    refine WL.pickT (v := .bool true) (bool_tr rfl hc43) rfl ?_
    refine WL.move (v := .bool true) rfl ?_
    refine WL.pass ((wanted_of rfl rfl rfl).trans rfl) rfl ?_
    refine WL.pass ((wanted_of rfl rfl rfl).trans rfl) rfl ?_
    refine WL.pass ((wanted_of rfl rfl rfl).trans rfl) rfl ?_
    refine WL.pass ((wanted_of rfl rfl rfl).trans rfl) rfl ?_
    refine WL.pass (wanted_undef rfl rfl rfl) rfl ?_
    refine WL.pass (wanted_undef rfl rfl rfl) rfl ?_
    refine WL.pass (wanted_undef rfl rfl rfl) rfl ?_
    refine WL.pass ((wanted_of rfl rfl rfl).trans rfl) rfl ?_
    refine WL.pickT (v := .bool true) rfl rfl ?_
    refine WL.nil ?_
    exact Jk38 true _ _ h30_0 h30_3 rfl ((hs.mask []).pick [2]) hf }
    {
    refine WL.fieldAddr (m := 1) h30_4 FA32_1 rfl ?_ (hg := (wanted_of rfl rfl (bool_tr rfl hc45)).trans rfl)
    refine WL.loadF (z := x22.Arg) F_adversary_Rule_Arg hs 0 rfl 3 rfl rfl TI3 (.inr rfl) rfl rfl (fun v46 hs => ?_) (hg := (wanted_of rfl rfl (bool_tr rfl hc45)).trans rfl)
    obtain rfl := hs.int 0 rfl
    refine WL.bin (v := .bool (decide (1000 < x22.Arg))) rfl rfl (ib_gtr _ _ _) ?_ (hg := (wanted_of rfl rfl (bool_tr rfl hc45)).trans rfl)
    refine WL.pickF (v := .bool (decide (1000 < x22.Arg))) (bool_tr rfl hc45) rfl ?_ (hg := (wanted_of rfl rfl (bool_tr rfl hc43)).trans rfl)
    refine WL.pickT (v := .bool (decide (1000 < x22.Arg))) (bool_tr rfl hc43) rfl ?_
    refine WL.move (v := .bool (decide (1000 < x22.Arg))) rfl ?_
    rcases iteE hf with ⟨hc47, hf⟩ | ⟨hc47, hf⟩
    {
    refine WL.pass ((wanted_of rfl rfl (bool_tr rfl hc47)).trans rfl) rfl ?_
    refine WL.pass ((wanted_of rfl rfl (bool_tr rfl hc47)).trans rfl) rfl ?_
    refine WL.pass ((wanted_of rfl rfl (bool_tr rfl hc47)).trans rfl) rfl ?_
    refine WL.pass ((wanted_of rfl rfl (bool_tr rfl hc47)).trans rfl) rfl ?_
    refine WL.pass (wanted_undef rfl rfl rfl) rfl ?_
    refine WL.pass (wanted_undef rfl rfl rfl) rfl ?_
    refine WL.pass (wanted_undef rfl rfl rfl) rfl ?_
    refine WL.pass ((wanted_of rfl rfl (bool_tr rfl hc47)).trans rfl) rfl ?_
    refine WL.pickT (v := .bool true) (bool_tr rfl hc47) rfl ?_
    refine WL.nil ?_
    exact Jk38 true _ _ h30_0 h30_3 rfl ((hs.mask []).pick [3]) hf }
    {
    refine WL.fieldAddr (m := 0) h30_4 FA32_0 rfl ?_ (hg := (wanted_of rfl rfl (bool_tr rfl hc47)).trans rfl)
    refine WL.loadF (z := x22.Kind) F_adversary_Rule_Kind hs 0 rfl 4 rfl rfl TI3 (.inr rfl) rfl rfl (fun v48 hs => ?_) (hg := (wanted_of rfl rfl (bool_tr rfl hc47)).trans rfl)
    obtain rfl := hs.int 0 rfl
    refine WL.bin (v := .bool (decide (7 ≤ x22.Kind))) rfl rfl (ib_geq _ _ _) ?_ (hg := (wanted_of rfl rfl (bool_tr rfl hc47)).trans rfl)
    refine WL.move (v := .bool (decide (7 ≤ x22.Kind))) rfl ?_ (hg := (wanted_of rfl rfl (bool_tr rfl hc47)).trans rfl)
    rcases iteE hf with ⟨hc49, hf⟩ | ⟨hc49, hf⟩
    {
    refine WL.fieldAddr (m := 1) h30_4 FA32_1 rfl ?_ (hg := (wanted_of rfl rfl (bool_tr rfl hc49)).trans rfl)
    refine WL.loadF (z := x22.Arg) F_adversary_Rule_Arg hs 0 rfl 5 rfl rfl TI3 (.inr rfl) rfl rfl (fun v50 hs => ?_) (hg := (wanted_of rfl rfl (bool_tr rfl hc49)).trans rfl)
    obtain rfl := hs.int 0 rfl
    refine WL.bin (v := .bool (x22.Arg != 0)) rfl rfl (ib_neq _ _ _) ?_ (hg := (wanted_of rfl rfl (bool_tr rfl hc49)).trans rfl)
    refine WL.pickT (v := .bool (x22.Arg != 0)) (bool_tr rfl hc49) rfl ?_ (hg := (wanted_of rfl rfl (bool_tr rfl hc47)).trans rfl)
    refine WL.pickF (v := .bool (x22.Arg != 0)) (bool_tr rfl hc47) rfl ?_
    refine WL.nil ?_
    exact Jk38 (x22.Arg != 0) _ _ h30_0 h30_3 rfl ((hs.mask []).pick [5]) hf }
    {
    refine WL.pass ((wanted_of rfl rfl (bool_tr rfl hc49)).trans rfl) rfl ?_
    refine WL.pass ((wanted_of rfl rfl (bool_tr rfl hc49)).trans rfl) rfl ?_
    refine WL.pass ((wanted_of rfl rfl (bool_tr rfl hc49)).trans rfl) rfl ?_
    refine WL.pickF (v := .bool false) (bool_tr rfl hc49) rfl ?_ (hg := (wanted_of rfl rfl (bool_tr rfl hc47)).trans rfl)
    refine WL.pickF (v := .bool false) (bool_tr rfl hc47) rfl ?_
    refine WL.nil ?_
    exact Jk38 false _ _ h30_0 h30_3 rfl ((hs.mask []).pick [4]) hf } } } }
    {
    refine WL.pass ((wanted_of rfl rfl (bool_tr rfl hc43)).trans rfl) rfl ?_
    refine WL.pass ((wanted_of rfl rfl (bool_tr rfl hc43)).trans rfl) rfl ?_
    refine WL.pass ((wanted_of rfl rfl (bool_tr rfl hc43)).trans rfl) rfl ?_
    refine WL.pass ((wanted_of rfl rfl (bool_tr rfl hc43)).trans rfl) rfl ?_
    refine WL.pass (wanted_undef rfl rfl rfl) rfl ?_
    refine WL.pass (wanted_undef rfl rfl rfl) rfl ?_
    refine WL.pass (wanted_undef rfl rfl rfl) rfl ?_
    refine WL.pass ((wanted_of rfl rfl (bool_tr rfl hc43)).trans rfl) rfl ?_
    refine WL.pickF (v := .bool false) (bool_tr rfl hc43) rfl ?_
    refine WL.move (v := .bool false) rfl ?_
    refine WL.fieldAddr (m := 0) h30_4 FA32_0 rfl ?_ (hg := (wanted_of rfl rfl rfl).trans rfl)
    refine WL.loadF (z := x22.Kind) F_adversary_Rule_Kind hs 0 rfl 2 rfl rfl TI3 (.inr rfl) rfl rfl (fun v51 hs => ?_) (hg := (wanted_of rfl rfl rfl).trans rfl)
    obtain rfl := hs.int 0 rfl
    refine WL.bin (v := .bool (decide (7 ≤ x22.Kind))) rfl rfl (ib_geq _ _ _) ?_ (hg := (wanted_of rfl rfl rfl).trans rfl)
    refine WL.move (v := .bool (decide (7 ≤ x22.Kind))) rfl ?_ (hg := (wanted_of rfl rfl rfl).trans rfl)
    rcases iteE hf with ⟨hc52, hf⟩ | ⟨hc52, hf⟩
    {
    refine WL.fieldAddr (m := 1) h30_4 FA32_1 rfl ?_ (hg := (wanted_of rfl rfl (bool_tr rfl hc52)).trans rfl)
    refine WL.loadF (z := x22.Arg) F_adversary_Rule_Arg hs 0 rfl 3 rfl rfl TI3 (.inr rfl) rfl rfl (fun v53 hs => ?_) (hg := (wanted_of rfl rfl (bool_tr rfl hc52)).trans rfl)
    obtain rfl := hs.int 0 rfl
    refine WL.bin (v := .bool (x22.Arg != 0)) rfl rfl (ib_neq _ _ _) ?_ (hg := (wanted_of rfl rfl (bool_tr rfl hc52)).trans rfl)
    refine WL.pickT (v := .bool (x22.Arg != 0)) (bool_tr rfl hc52) rfl ?_ (hg := (wanted_of rfl rfl rfl).trans rfl)
    refine WL.pickF (v := .bool (x22.Arg != 0)) rfl rfl ?_
    refine WL.nil ?_
    exact Jk38 (x22.Arg != 0) _ _ h30_0 h30_3 rfl ((hs.mask []).pick [3]) hf }
    {
    refine WL.pass ((wanted_of rfl rfl (bool_tr rfl hc52)).trans rfl) rfl ?_
    refine WL.pass ((wanted_of rfl rfl (bool_tr rfl hc52)).trans rfl) rfl ?_
    refine WL.pass ((wanted_of rfl rfl (bool_tr rfl hc52)).trans rfl) rfl ?_
    refine WL.pickF (v := .bool false) (bool_tr rfl hc52) rfl ?_ (hg := (wanted_of rfl rfl rfl).trans rfl)
    refine WL.pickF (v := .bool false) rfl rfl ?_
    refine WL.nil ?_
    exact Jk38 false _ _ h30_0 h30_3 rfl ((hs.mask []).pick [2]) hf } } }
  refine W.region ?_
  refine WL.fieldAddr (m := 0) rfl FA32_0 rfl ?_
  refine WL.loadF (z := x22.Kind) F_adversary_Rule_Kind hs 0 rfl 0 rfl rfl TI3 (.inr rfl) rfl rfl (fun v54 hs => ?_)
  obtain rfl := hs.int 0 rfl
  refine WL.bin (v := .bool (decide (x22.Kind < 1))) rfl rfl (ib_lss _ _ _) ?_
  refine WL.move (v := .bool (decide (x22.Kind < 1))) rfl ?_
  rcases iteE hf with ⟨hc55, hf⟩ | ⟨hc55, hf⟩
  {
  refine WL.pass ((wanted_of rfl rfl (bool_tr rfl hc55)).trans rfl) rfl ?_
  refine WL.pass ((wanted_of rfl rfl (bool_tr rfl hc55)).trans rfl) rfl ?_
  refine WL.pass ((wanted_of rfl rfl (bool_tr rfl hc55)).trans rfl) rfl ?_
  refine WL.pickT (v := .bool true) (bool_tr rfl hc55) rfl ?_
  refine WL.nil ?_
  exact Jk32 true _ _ h14_0 h14_3 rfl rfl ((hs.mask [true]).pick [3, 1]) hf }
  {
  refine WL.fieldAddr (m := 0) rfl FA32_0 rfl ?_ (hg := (wanted_of rfl rfl (bool_tr rfl hc55)).trans rfl)
  refine WL.loadF (z := x22.Kind) F_adversary_Rule_Kind hs 0 rfl 1 rfl rfl TI3 (.inr rfl) rfl rfl (fun v56 hs => ?_) (hg := (wanted_of rfl rfl (bool_tr rfl hc55)).trans rfl)
  obtain rfl := hs.int 0 rfl
  refine WL.bin (v := .bool (decide (9 < x22.Kind))) rfl rfl (ib_gtr _ _ _) ?_ (hg := (wanted_of rfl rfl (bool_tr rfl hc55)).trans rfl)
  refine WL.pickF (v := .bool (decide (9 < x22.Kind))) (bool_tr rfl hc55) rfl ?_
  refine WL.nil ?_
  exact Jk32 (decide (9 < x22.Kind)) _ _ h14_0 h14_3 rfl rfl ((hs.mask [true]).pick [4, 2]) hf } }
  {
  refine W.cond_false (bool_tr rfl hc19) ?_
  refine W.exit ?_
  have hr := Option.some.inj hf; subst hr
  have hr := hbbs16 _ rfl; subst hr
  have hf := hfs16
  exact Jk11  _ _  ((hs.mask []).pick []) hf } }
theorem esref36_Format.calls {ok : Nat → Prop} {w0 : World} {x1 : List adversary_Rule} {a2 : Option Addr} {c3 : Nat} {r : List UInt8} (hf : esref36_Format x1 = some r) (i0 : (vl (tSlice t_adversary_Rule) x1 (.slice a2 x1.length c3)).holds ok w0) :
    Calls Tryd.prog 7 #[.slice a2 x1.length c3] w0 fun e w' => ∃ v, e = .returned v ∧ ∃ y : Unit, v = bstr r ∧ St ok (bz w0) w' [] [] := by
  unfold esref36_Format at hf
  refine calls_of_W (fn := Tryd.f7) (N := 45) Tryd.func7 rfl Tryd.ntmps7 rfl ?_
  have hs : St ok (bz w0) w0 [vl (tSlice t_adversary_Rule) x1 (.slice a2 x1.length c3)] [] := St.init (All.cons i0 All.nil)
  clear i0
  refine W.seqK fun K4 hK4 => ?_
  refine W.region ?_
  refine WL.assign (v := bstr ([] : List UInt8)) rfl ?_
  refine WL.nil ?_
  refine hK4 _ _ ?_
  refine W.seqK fun K5 hK5 => ?_
  refine W.seqK fun K6 hK6 => ?_
  refine W.region ?_
  refine WL.move (v := .slice a2 x1.length c3) rfl ?_
  obtain ⟨x7, hxx7, hf⟩ := bindE hf
  refine WL.call (vs := [.slice a2 x1.length c3]) hs FN8 ⟨rfl, trivial⟩ (fun ok hA => esref36_ValidateRules.calls (x1 := x1) hxx7 (hA.get 0 rfl)) ?_
  rintro _ w hs
  refine WL.bin (v := .bool (x7 != 0)) rfl rfl (ib_neq _ _ _) ?_
  refine WL.nil ?_
  refine hK6 _ _ ?_
  rcases iteE hf with ⟨hc8, hf⟩ | ⟨hc8, hf⟩
  {
  refine W.cond_true (bool_tr rfl hc8) ?_
  refine W.seqK fun K9 hK9 => ?_
  refine W.region ?_
  refine WL.assign (v := bstr ([] : List UInt8)) rfl ?_
  refine WL.nil ?_
  refine hK9 _ _ ?_
  refine W.ret ?_
  have hr := Option.some.inj hf; subst hr
  exact ⟨_, resOk_one rfl rfl, (), rfl, (hs.mask []).pick []⟩ }
  {
  refine W.cond_false (bool_tr rfl hc8) ?_
  refine W.skip ?_
  refine hK5 _ _ ?_
  refine W.seqK fun K10 hK10 => ?_
  refine W.region ?_
  refine WL.build (vs := [(0, bstr ([112, 114, 101, 102, 101, 114, 32, 116, 111, 32] : List UInt8)), (1, bstr ([112, 114, 101, 102, 101, 114, 32, 102, 114, 111, 109, 32] : List UInt8)), (2, bstr ([112, 114, 101, 102, 101, 114, 32, 107, 105, 110, 100, 32] : List UInt8)), (3, bstr ([97, 118, 111, 105, 100, 32, 116, 111, 32] : List UInt8)), (4, bstr ([97, 118, 111, 105, 100, 32, 102, 114, 111, 109, 32] : List UInt8)), (5, bstr ([97, 118, 111, 105, 100, 32, 107, 105, 110, 100, 32] : List UInt8)), (6, bstr ([111, 108, 100, 101, 115, 116] : List UInt8)), (7, bstr ([110, 101, 119, 101, 115, 116] : List UInt8)), (8, bstr ([114, 111, 116, 97, 116, 101] : List UInt8))]) (cs := [bstr ([112, 114, 101, 102, 101, 114, 32, 116, 111, 32] : List UInt8), bstr ([112, 114, 101, 102, 101, 114, 32, 102, 114, 111, 109, 32] : List UInt8), bstr ([112, 114, 101, 102, 101, 114, 32, 107, 105, 110, 100, 32] : List UInt8), bstr ([97, 118, 111, 105, 100, 32, 116, 111, 32] : List UInt8), bstr ([97, 118, 111, 105, 100, 32, 102, 114, 111, 109, 32] : List UInt8), bstr ([97, 118, 111, 105, 100, 32, 107, 105, 110, 100, 32] : List UInt8), bstr ([111, 108, 100, 101, 115, 116] : List UInt8), bstr ([110, 101, 119, 101, 115, 116] : List UInt8), bstr ([114, 111, 116, 97, 116, 101] : List UInt8)]) ⟨⟨rfl, rfl⟩, ⟨⟨rfl, rfl⟩, ⟨⟨rfl, rfl⟩, ⟨⟨rfl, rfl⟩, ⟨⟨rfl, rfl⟩, ⟨⟨rfl, rfl⟩, ⟨⟨rfl, rfl⟩, ⟨⟨rfl, rfl⟩, ⟨⟨rfl, rfl⟩, trivial⟩⟩⟩⟩⟩⟩⟩⟩⟩ (bldA (places := [(0, 1), (1, 1), (2, 1), (3, 1), (4, 1), (5, 1), (6, 1), (7, 1), (8, 1)]) (zero := [bstr [], bstr [], bstr [], bstr [], bstr [], bstr [], bstr [], bstr [], bstr []]) UN61 TI9 ZA61 rfl rfl rfl) ?_
  refine WL.alloc hs ZV61 (fun g11 w hs => ?_)
  refine WL.storeAll (vs := [bstr ([112, 114, 101, 102, 101, 114, 32, 116, 111, 32] : List UInt8), bstr ([112, 114, 101, 102, 101, 114, 32, 102, 114, 111, 109, 32] : List UInt8), bstr ([112, 114, 101, 102, 101, 114, 32, 107, 105, 110, 100, 32] : List UInt8), bstr ([97, 118, 111, 105, 100, 32, 116, 111, 32] : List UInt8), bstr ([97, 118, 111, 105, 100, 32, 102, 114, 111, 109, 32] : List UInt8), bstr ([97, 118, 111, 105, 100, 32, 107, 105, 110, 100, 32] : List UInt8), bstr ([111, 108, 100, 101, 115, 116] : List UInt8), bstr ([110, 101, 119, 101, 115, 116] : List UInt8), bstr ([114, 111, 116, 97, 116, 101] : List UInt8)]) hs 0 rfl TI61 rfl rfl rfl rfl (ones_of rfl) rfl (fun w hs => ?_)
  refine WL.nil ?_
  refine hK10 _ _ ?_
  refine W.seqK fun K12 hK12 => ?_
  refine W.region ?_
  refine WL.assign (v := bstr ([] : List UInt8)) rfl ?_
  refine WL.nil ?_
  refine hK12 _ _ ?_
  refine W.seqK fun K13 hK13 => ?_
  have Jk16 : ∀ (x15 : List UInt8) (ρ : Env) (w : World), ρ 4 = bstr x15 → St ok (bz w0) w [] [] → esref36_Format.j1 x15 = some r → K13 ρ w := by
    intro x15 ρ w h14_4 hs hf
    refine hK13 _ _ ?_
    unfold esref36_Format.j1 at hf
    refine W.seqK fun K17 hK17 => ?_
    refine W.region ?_
    refine WL.move (v := bstr x15) h14_4 ?_
    refine WL.assign (v := bstr x15) rfl ?_
    refine WL.nil ?_
    refine hK17 _ _ ?_
    refine W.ret ?_
    have hr := Option.some.inj hf; subst hr
    exact ⟨_, resOk_one rfl rfl, (), rfl, (hs.mask []).pick []⟩
  refine W.seqK fun K18 hK18 => ?_
  refine W.region ?_
  refine WL.assign (v := .int .i64 0) rfl ?_
  refine WL.nil ?_
  refine hK18 _ _ ?_
  refine W.block ?_
  obtain ⟨bs22, hbs22, hfs22⟩ := bindE hf
  refine W.loop hbs22 (fun s ρ w => match s with | (x20, x21) => ρ 0 = .slice a2 x1.length c3 ∧ ρ 3 = .pointer (some ⟨g11, 0, none⟩) ∧ ρ 4 = bstr x20 ∧ ρ 5 = .int .i64 x21 ∧ St ok (bz w0) w [vl (tSlice t_adversary_Rule) x1 (.slice a2 x1.length c3)] [blk g11 61 ([bstr ([112, 114, 101, 102, 101, 114, 32, 116, 111, 32] : List UInt8), bstr ([112, 114, 101, 102, 101, 114, 32, 102, 114, 111, 109, 32] : List UInt8), bstr ([112, 114, 101, 102, 101, 114, 32, 107, 105, 110, 100, 32] : List UInt8), bstr ([97, 118, 111, 105, 100, 32, 116, 111, 32] : List UInt8), bstr ([97, 118, 111, 105, 100, 32, 102, 114, 111, 109, 32] : List UInt8), bstr ([97, 118, 111, 105, 100, 32, 107, 105, 110, 100, 32] : List UInt8), bstr ([111, 108, 100, 101, 115, 116] : List UInt8), bstr ([110, 101, 119, 101, 115, 116] : List UInt8), bstr ([114, 111, 116, 97, 116, 101] : List UInt8)])]) ⟨rfl, rfl, rfl, rfl, (hs.mask [true]).pick [0]⟩ ?_
  intro s ρ w os22 hI hf hbbs22
  obtain ⟨x20, x21⟩ := s
  obtain ⟨h19_0, h19_3, h19_4, h19_5, hs⟩ := hI
  unfold esref36_Format.l1 at hf
  refine W.seqK fun K23 hK23 => ?_
  refine W.seqK fun K24 hK24 => ?_
  refine W.region ?_
  refine WL.move (v := .int .i64 x21) h19_5 ?_
  refine WL.move (v := .slice a2 x1.length c3) h19_0 ?_
  refine WL.len (v := .slice a2 x1.length c3) rfl (len_slice UN24) ?_
  refine WL.bin (v := .bool (decide (x21 < (x1.length : Int)))) rfl rfl (ib_lss _ _ _) ?_
  refine WL.nil ?_
  refine hK24 _ _ ?_
  rcases iteE hf with ⟨hc25, hf⟩ | ⟨hc25, hf⟩
  {
  refine W.cond_true (bool_tr rfl hc25) ?_
  refine W.skip ?_
  refine hK23 _ _ ?_
  refine W.seqK fun K26 hK26 => ?_
  have Jk29 : ∀ (x28 : List UInt8) (ρ : Env) (w : World), ρ 0 = .slice a2 x1.length c3 → ρ 3 = .pointer (some ⟨g11, 0, none⟩) → ρ 4 = bstr x28 → ρ 5 = .int .i64 x21 → St ok (bz w0) w [vl (tSlice t_adversary_Rule) x1 (.slice a2 x1.length c3)] [blk g11 61 ([bstr ([112, 114, 101, 102, 101, 114, 32, 116, 111, 32] : List UInt8), bstr ([112, 114, 101, 102, 101, 114, 32, 102, 114, 111, 109, 32] : List UInt8), bstr ([112, 114, 101, 102, 101, 114, 32, 107, 105, 110, 100, 32] : List UInt8), bstr ([97, 118, 111, 105, 100, 32, 116, 111, 32] : List UInt8), bstr ([97, 118, 111, 105, 100, 32, 102, 114, 111, 109, 32] : List UInt8), bstr ([97, 118, 111, 105, 100, 32, 107, 105, 110, 100, 32] : List UInt8), bstr ([111, 108, 100, 101, 115, 116] : List UInt8), bstr ([110, 101, 119, 101, 115, 116] : List UInt8), bstr ([114, 111, 116, 97, 116, 101] : List UInt8)])] → esref36_Format.j2 x21 x28 = some os22 → K26 ρ w := by
    intro x28 ρ w h27_0 h27_3 h27_4 h27_5 hs hf
    refine hK26 _ _ ?_
    unfold esref36_Format.j2 at hf
    refine W.region ?_
    refine WL.move (v := .int .i64 x21) h27_5 ?_
    obtain ⟨x30, ex30, hf⟩ := letE hf
    refine WL.bin (v := .int .i64 x30) rfl rfl (ib_as ex30 (ib_add _ _ _)) ?_
    refine WL.assign (v := .int .i64 x30) rfl ?_
    refine WL.nil ?_
    exact ⟨_, (Option.some.inj hf).symm, h27_0, h27_3, h27_4, rfl, (hs.mask [true]).pick [0]⟩
  refine W.block ?_
  refine W.seqK fun K31 hK31 => ?_
  have Jk34 : ∀ (x33 : List UInt8) (ρ : Env) (w : World), ρ 0 = .slice a2 x1.length c3 → ρ 3 = .pointer (some ⟨g11, 0, none⟩) → ρ 4 = bstr x33 → ρ 5 = .int .i64 x21 → St ok (bz w0) w [vl (tSlice t_adversary_Rule) x1 (.slice a2 x1.length c3)] [blk g11 61 ([bstr ([112, 114, 101, 102, 101, 114, 32, 116, 111, 32] : List UInt8), bstr ([112, 114, 101, 102, 101, 114, 32, 102, 114, 111, 109, 32] : List UInt8), bstr ([112, 114, 101, 102, 101, 114, 32, 107, 105, 110, 100, 32] : List UInt8), bstr ([97, 118, 111, 105, 100, 32, 116, 111, 32] : List UInt8), bstr ([97, 118, 111, 105, 100, 32, 102, 114, 111, 109, 32] : List UInt8), bstr ([97, 118, 111, 105, 100, 32, 107, 105, 110, 100, 32] : List UInt8), bstr ([111, 108, 100, 101, 115, 116] : List UInt8), bstr ([110, 101, 119, 101, 115, 116] : List UInt8), bstr ([114, 111, 116, 97, 116, 101] : List UInt8)])] → esref36_Format.j3 x1 x21 x33 = some os22 → K31 ρ w := by
    intro x33 ρ w h32_0 h32_3 h32_4 h32_5 hs hf
    refine hK31 _ _ ?_
    unfold esref36_Format.j3 at hf
    refine W.seqK fun K35 hK35 => ?_
    refine W.region ?_
    refine WL.move (v := bstr x33) h32_4 ?_
    refine WL.move (v := .slice a2 x1.length c3) h32_0 ?_
    refine WL.move (v := .int .i64 x21) h32_5 ?_
    obtain ⟨x36, hxx36, hf⟩ := bindE hf
    refine WL.indexAddr hs 0 rfl UN24 TI32 rfl rfl hxx36 (fun ad37 hs => ?_)
    refine WL.fieldAddrP (z := x36.Kind) F_adversary_Rule_Kind hs 0 rfl rfl FA32_0 rfl (fun ad38 hs => ?_)
    refine WL.loadP hs 0 rfl TI3 (.inr rfl) rfl (fun v39 hs => ?_)
    obtain rfl := hs.int 0 rfl
    obtain ⟨x40, ex40, hf⟩ := letE hf
    refine WL.bin (v := .int .i64 x40) rfl rfl (ib_as ex40 (ib_sub _ _ _)) ?_
    obtain ⟨x41, hxx41, hf⟩ := bindE hf
    refine WL.indexAddrA (m := 0 + (x40).toNat * 1) h32_3 rfl UN61 TI9 (idx_in (n := 9) rfl hxx41) rfl ?_
    refine WL.load1 (v := bstr x41) hs 0 rfl TI9 rfl (idx_cell (enc := bstr) hxx41) ?_
    obtain ⟨x42, hxx42, hf⟩ := bindE hf
    refine WL.binS (v := bstr x42) rfl rfl (sb_cat hxx42) ?_
    refine WL.assign (v := bstr x42) rfl ?_
    refine WL.nil ?_
    refine hK35 _ _ ?_
    refine W.seqK fun K43 hK43 => ?_
    refine W.region ?_
    refine WL.move (v := .slice a2 x1.length c3) h32_0 ?_
    refine WL.move (v := .int .i64 x21) h32_5 ?_
    obtain ⟨x44, hxx44, hf⟩ := bindE hf
    refine WL.indexAddr hs 3 rfl UN24 TI32 rfl rfl hxx44 (fun ad45 hs => ?_)
    refine WL.fieldAddrP (z := x44.Kind) F_adversary_Rule_Kind hs 0 rfl rfl FA32_0 rfl (fun ad46 hs => ?_)
    refine WL.loadP hs 0 rfl TI3 (.inr rfl) rfl (fun v47 hs => ?_)
    obtain rfl := hs.int 0 rfl
    refine WL.bin (v := .bool (decide (x44.Kind ≤ 6))) rfl rfl (ib_leq _ _ _) ?_
    refine WL.nil ?_
    refine hK43 _ _ ?_
    rcases iteE hf with ⟨hc48, hf⟩ | ⟨hc48, hf⟩
    {
    refine W.cond_true (bool_tr rfl hc48) ?_
    refine W.region ?_
    refine WL.move (v := bstr x42) rfl ?_
    refine WL.move (v := .slice a2 x1.length c3) h32_0 ?_
    refine WL.move (v := .int .i64 x21) h32_5 ?_
    obtain ⟨x49, hxx49, hf⟩ := bindE hf
    refine WL.indexAddr hs 6 rfl UN24 TI32 rfl rfl hxx49 (fun ad50 hs => ?_)
    refine WL.fieldAddrP (z := x49.Arg) F_adversary_Rule_Arg hs 0 rfl rfl FA32_1 rfl (fun ad51 hs => ?_)
    refine WL.loadP hs 0 rfl TI3 (.inr rfl) rfl (fun v52 hs => ?_)
    obtain rfl := hs.int 0 rfl
    obtain ⟨x53, hxx53, hf⟩ := bindE hf
    refine WL.call (vs := [.int .i64 x49.Arg]) hs FN20 ⟨rfl, trivial⟩ (fun ok hA => esref36_decimal.calls (x1 := x49.Arg) hxx53) ?_
    rintro _ w hs
    obtain ⟨x54, hxx54, hf⟩ := bindE hf
    refine WL.binS (v := bstr x54) rfl rfl (sb_cat hxx54) ?_
    refine WL.assign (v := bstr x54) rfl ?_
    refine WL.nil ?_
    exact Jk29 x54 _ _ h32_0 h32_3 rfl h32_5 ((hs.mask [true]).pick [9]) hf }
    {
    refine W.cond_false (bool_tr rfl hc48) ?_
    refine W.skip ?_
    exact Jk29 x42 _ _ h32_0 h32_3 rfl h32_5 ((hs.mask [true]).pick [6]) hf }
  refine W.seqK fun K55 hK55 => ?_
  refine W.region ?_
  refine WL.move (v := .int .i64 x21) h19_5 ?_
  refine WL.bin (v := .bool (decide (0 < x21))) rfl rfl (ib_gtr _ _ _) ?_
  refine WL.nil ?_
  refine hK55 _ _ ?_
  rcases iteE hf with ⟨hc56, hf⟩ | ⟨hc56, hf⟩
  {
  refine W.cond_true (bool_tr rfl hc56) ?_
  refine W.region ?_
  refine WL.move (v := bstr x20) h19_4 ?_
  obtain ⟨x57, hxx57, hf⟩ := bindE hf
  refine WL.binS (v := bstr x57) rfl rfl (sb_cat hxx57) ?_
  refine WL.assign (v := bstr x57) rfl ?_
  refine WL.nil ?_
  exact Jk34 x57 _ _ h19_0 h19_3 rfl h19_5 ((hs.mask [true]).pick [0]) hf }
  {
  refine W.cond_false (bool_tr rfl hc56) ?_
  refine W.skip ?_
  exact Jk34 x20 _ _ h19_0 h19_3 h19_4 h19_5 ((hs.mask [true]).pick [0]) hf } }
  {
  refine W.cond_false (bool_tr rfl hc25) ?_
  refine W.exit ?_
  have hr := Option.some.inj hf; subst hr
  have hr := hbbs22 _ rfl; subst hr
  have hf := hfs22
  exact Jk16 x20 _ _ h19_4 ((hs.mask []).pick []) hf } }
end Go.Proofs.YthcohhpmpdijoaaDoor
set_option linter.unusedVariables false
set_option linter.unusedSimpArgs false
namespace Go.Proofs.YthcohhpmpdijoaaDoor
open Go Go.RowKit Go.Proofs.YthcohhpmpdijoaaDoorL
set_option maxRecDepth 100000
set_option maxHeartbeats 4000000
theorem esref36_split.calls {ok : Nat → Prop} {w0 : World} {x1 : List UInt8}  {r : List (List UInt8)} (hf : esref36_split x1 = some r)  :
    Calls Tryd.prog 23 #[bstr x1] w0 fun e w' => ∃ v, e = .returned v ∧ ∃ y : (Option Addr × Nat × Nat), v = .slice y.1 y.2.1 y.2.2 ∧ St ok (bz w0) w' [] [own tStr 9 (.slice y.1 y.2.1 y.2.2) r] := by
  unfold esref36_split at hf
  refine calls_of_W (fn := Tryd.f23) (N := 34) Tryd.func23 rfl Tryd.ntmps23 rfl ?_
  have hs : St ok (bz w0) w0 [] [] := St.init All.nil
  refine W.seqK fun K2 hK2 => ?_
  refine W.region ?_
  refine WL.assign (v := .slice none 0 0) rfl ?_
  refine WL.nil ?_
  refine hK2 _ _ ?_
  refine W.seqK fun K3 hK3 => ?_
  refine W.region ?_
  refine WL.assign (v := .slice none 0 0) rfl ?_
  refine WL.nil ?_
  refine hK3 _ _ ?_
  refine W.seqK fun K4 hK4 => ?_
  refine W.region ?_
  refine WL.assign (v := .int .i64 0) rfl ?_
  refine WL.nil ?_
  refine hK4 _ _ ?_
  refine W.seqK fun K5 hK5 => ?_
  have hs := hs.ownNil tStr 9
  have Jk12 : ∀ (x7 : List (List UInt8)) (x11 : Int) (a8 : Option Addr) (c9 : Nat) (n10 : Nat) (ρ : Env) (w : World), ρ 0 = bstr x1 → ρ 3 = .slice a8 n10 c9 → ρ 4 = .int .i64 x11 → St ok (bz w0) w [] [own tStr 9 (.slice a8 n10 c9) x7] → esref36_split.j1 x1 x7 x11 = some r → K5 ρ w := by
    intro x7 x11 a8 c9 n10 ρ w h6_0 h6_3 h6_4 hs hf
    refine hK5 _ _ ?_
    unfold esref36_split.j1 at hf
    refine W.seqK fun K13 hK13 => ?_
    refine W.region ?_
    refine WL.move (v := .slice a8 n10 c9) h6_3 ?_
    refine WL.move (v := bstr x1) h6_0 ?_
    refine WL.move (v := .int .i64 x11) h6_4 ?_
    obtain ⟨x14, hxx14, hf⟩ := bindE hf
    refine WL.sliceS_l UN9 rfl rfl hxx14 ?_
    refine WL.buildSlice (n := 1) (vs := [(0, bstr x14)]) (cs := [bstr x14]) hs ⟨⟨rfl, rfl⟩, trivial⟩ (bls PS34 (by decide) rfl) (fun g15 w hs => ?_)
    obtain ⟨x16, hxx16, hf⟩ := bindE hf
    obtain ⟨hbx16, hex16⟩ := appE hxx16
    refine WL.append (ys := [x14]) (zs := x16) hs 1 rfl 0 rfl UN34 EI9 rfl rfl (fun ok hA => (Cells.one (T := tStr) rfl)) hbx16 (by omega) hex16 (fun v17 w hs => ?_)
    obtain ⟨a18, n20, c19, rfl⟩ := hs.ownv3 1 rfl
    refine WL.assign (v := .slice a18 n20 c19) rfl ?_
    refine WL.nil ?_
    refine hK13 _ _ ?_
    refine W.ret ?_
    have hr := Option.some.inj hf; subst hr
    exact ⟨_, resOk_one rfl rfl, (a18, n20, c19), rfl, (hs.mask [false, true]).pick []⟩
  refine W.seqK fun K21 hK21 => ?_
  refine W.region ?_
  refine WL.assign (v := .int .i64 0) rfl ?_
  refine WL.nil ?_
  refine hK21 _ _ ?_
  refine W.block ?_
  obtain ⟨bs29, hbs29, hfs29⟩ := bindE hf
  refine W.loop hbs29 (fun s ρ w => match s with | (x23, x27, x28) => ∃ (a24 : Option Addr), ∃ (c25 : Nat), ∃ (n26 : Nat), ρ 0 = bstr x1 ∧ ρ 3 = .slice a24 n26 c25 ∧ ρ 4 = .int .i64 x27 ∧ ρ 5 = .int .i64 x28 ∧ St ok (bz w0) w [] [own tStr 9 (.slice a24 n26 c25) x23]) ⟨none, 0, 0, rfl, rfl, rfl, rfl, (hs.mask [true]).pick []⟩ ?_
  intro s ρ w os29 hI hf hbbs29
  obtain ⟨x23, x27, x28⟩ := s
  obtain ⟨a24, c25, n26, h22_0, h22_3, h22_4, h22_5, hs⟩ := hI
  unfold esref36_split.l1 at hf
  refine W.seqK fun K30 hK30 => ?_
  refine W.seqK fun K31 hK31 => ?_
  refine W.region ?_
  refine WL.move (v := .int .i64 x28) h22_5 ?_
  obtain ⟨x32, ex32, hf⟩ := letE hf
  refine WL.bin (v := .int .i64 x32) rfl rfl (ib_as ex32 (ib_add _ _ _)) ?_
  refine WL.move (v := bstr x1) h22_0 ?_
  refine WL.len (v := bstr x1) rfl (len_string UN9) ?_
  refine WL.bin (v := .bool (decide (x32 ≤ (x1.length : Int)))) rfl rfl (ib_leq _ _ _) ?_
  refine WL.nil ?_
  refine hK31 _ _ ?_
  rcases iteE hf with ⟨hc33, hf⟩ | ⟨hc33, hf⟩
  {
  refine W.cond_true (bool_tr rfl hc33) ?_
  refine W.skip ?_
  refine hK30 _ _ ?_
  refine W.seqK fun K34 hK34 => ?_
  have Jk41 : ∀ (x36 : List (List UInt8)) (x40 : Int) (a37 : Option Addr) (c38 : Nat) (n39 : Nat) (ρ : Env) (w : World), ρ 0 = bstr x1 → ρ 3 = .slice a37 n39 c38 → ρ 4 = .int .i64 x40 → ρ 5 = .int .i64 x28 → St ok (bz w0) w [] [own tStr 9 (.slice a37 n39 c38) x36] → esref36_split.j2 x28 x36 x40 = some os29 → K34 ρ w := by
    intro x36 x40 a37 c38 n39 ρ w h35_0 h35_3 h35_4 h35_5 hs hf
    refine hK34 _ _ ?_
    unfold esref36_split.j2 at hf
    refine W.region ?_
    refine WL.move (v := .int .i64 x28) h35_5 ?_
    obtain ⟨x42, ex42, hf⟩ := letE hf
    refine WL.bin (v := .int .i64 x42) rfl rfl (ib_as ex42 (ib_add _ _ _)) ?_
    refine WL.assign (v := .int .i64 x42) rfl ?_
    refine WL.nil ?_
    exact ⟨_, (Option.some.inj hf).symm, a37, c38, n39, h35_0, h35_3, h35_4, rfl, (hs.mask [true]).pick []⟩
  refine W.block ?_
  refine W.seqK fun K43 hK43 => ?_
  refine W.region ?_
  refine WL.move (v := bstr x1) h22_0 ?_
  refine WL.move (v := .int .i64 x28) h22_5 ?_
  refine WL.move (v := .int .i64 x28) h22_5 ?_
  obtain ⟨x44, ex44, hf⟩ := letE hf
  refine WL.bin (v := .int .i64 x44) rfl rfl (ib_as ex44 (ib_add _ _ _)) ?_
  obtain ⟨x45, hxx45, hf⟩ := bindE hf
  refine WL.sliceS_lh UN9 rfl rfl rfl hxx45 ?_
  refine WL.binS (v := .bool (x45 == ([59, 32] : List UInt8))) rfl rfl (sb_eql _ _) ?_
  refine WL.nil ?_
  refine hK43 _ _ ?_
  rcases iteE hf with ⟨hc46, hf⟩ | ⟨hc46, hf⟩
  {
  refine W.cond_true (bool_tr rfl hc46) ?_
  refine W.seqK fun K47 hK47 => ?_
  refine W.region ?_
  refine WL.move (v := .slice a24 n26 c25) h22_3 ?_
  refine WL.move (v := bstr x1) h22_0 ?_
  refine WL.move (v := .int .i64 x27) h22_4 ?_
  refine WL.move (v := .int .i64 x28) h22_5 ?_
  obtain ⟨x48, hxx48, hf⟩ := bindE hf
  refine WL.sliceS_lh UN9 rfl rfl rfl hxx48 ?_
  refine WL.buildSlice (n := 1) (vs := [(0, bstr x48)]) (cs := [bstr x48]) hs ⟨⟨rfl, rfl⟩, trivial⟩ (bls PS34 (by decide) rfl) (fun g49 w hs => ?_)
  obtain ⟨x50, hxx50, hf⟩ := bindE hf
  obtain ⟨hbx50, hex50⟩ := appE hxx50
  refine WL.append (ys := [x48]) (zs := x50) hs 1 rfl 0 rfl UN34 EI9 rfl rfl (fun ok hA => (Cells.one (T := tStr) rfl)) hbx50 (by omega) hex50 (fun v51 w hs => ?_)
  obtain ⟨a52, n54, c53, rfl⟩ := hs.ownv3 1 rfl
  refine WL.assign (v := .slice a52 n54 c53) rfl ?_
  refine WL.nil ?_
  refine hK47 _ _ ?_
  refine W.region ?_
  refine WL.move (v := .int .i64 x28) h22_5 ?_
  obtain ⟨x55, ex55, hf⟩ := letE hf
  refine WL.bin (v := .int .i64 x55) rfl rfl (ib_as ex55 (ib_add _ _ _)) ?_
  refine WL.assign (v := .int .i64 x55) rfl ?_
  refine WL.nil ?_
  exact Jk41 x50 x55 a52 c53 n54 _ _ h22_0 rfl rfl h22_5 ((hs.mask [false, true]).pick []) hf }
  {
  refine W.cond_false (bool_tr rfl hc46) ?_
  refine W.skip ?_
  exact Jk41 x23 x27 a24 c25 n26 _ _ h22_0 h22_3 h22_4 h22_5 ((hs.mask [true]).pick []) hf } }
  {
  refine W.cond_false (bool_tr rfl hc33) ?_
  refine W.exit ?_
  have hr := Option.some.inj hf; subst hr
  have hr := hbbs29 _ rfl; subst hr
  have hf := hfs29
  exact Jk12 x23 x27 a24 c25 n26 _ _ h22_0 h22_3 h22_4 ((hs.mask [true]).pick []) hf }
theorem esref36_parseRule.calls {ok : Nat → Prop} {w0 : World} {x1 : List UInt8}  {r : adversary_Rule × Bool} (hf : esref36_parseRule x1 = some r)  :
    Calls Tryd.prog 24 #[bstr x1] w0 fun e w' => ∃ v, e = .returned v ∧ ∃ y : List Value, v = .tuple #[.agg y.toArray, .bool r.2] ∧ St ok (bz w0) w' [vl t_adversary_Rule r.1 (.agg y.toArray)] [] := by
  unfold esref36_parseRule at hf
  refine calls_of_W (fn := Tryd.f24) (N := 59) Tryd.func24 rfl Tryd.ntmps24 rfl ?_
  have hs : St ok (bz w0) w0 [] [] := St.init All.nil
  refine W.seqK fun K2 hK2 => ?_
  refine W.region ?_
  refine WL.alloc hs ZV32 (fun g3 w hs => ?_)
  refine WL.assign (v := .bool false) rfl ?_
  refine WL.nil ?_
  refine hK2 _ _ ?_
  refine W.seqK fun K4 hK4 => ?_
  refine W.region ?_
  refine WL.assign (v := .int .i64 0) rfl ?_
  refine WL.nil ?_
  refine hK4 _ _ ?_
  refine W.seqK fun K5 hK5 => ?_
  have Jk8 : ∀ (x7 : Int) (ρ : Env) (w : World), ρ 0 = bstr x1 → ρ 2 = .pointer (some ⟨g3, 0, none⟩) → ρ 4 = .int .i64 x7 → St ok (bz w0) w [] [blk g3 32 [.int .i64 0, .int .i64 0]] → esref36_parseRule.j4 x1 x7 = some r → K5 ρ w := by
    intro x7 ρ w h6_0 h6_2 h6_4 hs hf
    refine hK5 _ _ ?_
    unfold esref36_parseRule.j4 at hf
    refine W.seqK fun K9 hK9 => ?_
    have Jk13 : ∀ (x11 : Int) (x12 : Int) (ρ : Env) (w : World), ρ 2 = .pointer (some ⟨g3, 0, none⟩) → St ok (bz w0) w [] [blk g3 32 [.int .i64 x11, .int .i64 x12]] → esref36_parseRule.j1 x11 x12 = some r → K9 ρ w := by
      intro x11 x12 ρ w h10_2 hs hf
      refine hK9 _ _ ?_
      unfold esref36_parseRule.j1 at hf
      refine W.seqK fun K14 hK14 => ?_
      refine W.region ?_
      refine WL.build (vs := []) (cs := [.int .i64 0, .int .i64 0]) trivial (bld PL32 rfl) ?_
      refine WL.storeAll (vs := [.int .i64 0, .int .i64 0]) hs 0 rfl TI32 h10_2 rfl rfl rfl (ones_of rfl) rfl (fun w hs => ?_)
      refine WL.assign (v := .bool false) rfl ?_
      refine WL.nil ?_
      refine hK14 _ _ ?_
      refine W.ret ?_
      have hr := Option.some.inj hf; subst hr
      have hs := hs.add (it := vl t_adversary_Rule (⟨0, 0⟩ : adversary_Rule) (.agg [.int .i64 0, .int .i64 0].toArray)) fun ok hA => V_agg (show t_adversary_Rule.R ok _ _ _ from ⟨[.int .i64 0], [.int .i64 0], rfl, rfl, rfl⟩) rfl
      exact ⟨_, resOk_two rfl (res_all hs 0 rfl TI32 h10_2 rfl) rfl, [.int .i64 0, .int .i64 0], rfl, (hs.mask []).pick [0]⟩
    refine W.seqK fun K15 hK15 => ?_
    refine W.region ?_
    refine WL.assign (v := .int .i64 1) rfl ?_
    refine WL.nil ?_
    refine hK15 _ _ ?_
    refine W.block ?_
    obtain ⟨bs20, hbs20, hfs20⟩ := bindE hf
    refine W.loop hbs20 (fun s ρ w => match s with | (x17, x18, x19) => ρ 0 = bstr x1 ∧ ρ 2 = .pointer (some ⟨g3, 0, none⟩) ∧ ρ 4 = .int .i64 x7 ∧ ρ 6 = .int .i64 x17 ∧ St ok (bz w0) w [] [blk g3 32 [.int .i64 x18, .int .i64 x19]]) ⟨h6_0, h6_2, h6_4, rfl, (hs.mask [true]).pick []⟩ ?_
    intro s ρ w os20 hI hf hbbs20
    obtain ⟨x17, x18, x19⟩ := s
    obtain ⟨h16_0, h16_2, h16_4, h16_6, hs⟩ := hI
    unfold esref36_parseRule.l1 at hf
    refine W.seqK fun K21 hK21 => ?_
    refine W.seqK fun K22 hK22 => ?_
    refine W.region ?_
    refine WL.move (v := .int .i64 x17) h16_6 ?_
    refine WL.bin (v := .bool (decide (x17 ≤ 9))) rfl rfl (ib_leq _ _ _) ?_
    refine WL.nil ?_
    refine hK22 _ _ ?_
    rcases iteE hf with ⟨hc23, hf⟩ | ⟨hc23, hf⟩
    {
    refine W.cond_true (bool_tr rfl hc23) ?_
    refine W.skip ?_
    refine hK21 _ _ ?_
    refine W.seqK fun K24 hK24 => ?_
    refine W.block ?_
    refine W.seqK fun K25 hK25 => ?_
    refine W.region ?_
    refine WL.move (v := .int .i64 x17) h16_6 ?_
    refine WL.move (v := .int .i64 x7) h16_4 ?_
    refine WL.build (vs := [(0, .int .i64 x17), (1, .int .i64 x7)]) (cs := [.int .i64 x17, .int .i64 x7]) ⟨⟨rfl, rfl⟩, ⟨⟨rfl, rfl⟩, trivial⟩⟩ (bld PL32 rfl) ?_
    refine WL.alloc hs ZV32 (fun g26 w hs => ?_)
    refine WL.storeAll (vs := [.int .i64 x17, .int .i64 x7]) hs 0 rfl TI32 rfl rfl rfl rfl (ones_of rfl) rfl (fun w hs => ?_)
    refine WL.nil ?_
    refine hK25 _ _ ?_
    refine W.seqK fun K27 hK27 => ?_
    have Jk30 : ∀ (x29 : Int) (ρ : Env) (w : World), ρ 0 = bstr x1 → ρ 2 = .pointer (some ⟨g3, 0, none⟩) → ρ 4 = .int .i64 x7 → ρ 6 = .int .i64 x17 → ρ 7 = .pointer (some ⟨g26, 0, none⟩) → St ok (bz w0) w [] [blk g26 32 [.int .i64 x17, .int .i64 x29], blk g3 32 [.int .i64 x18, .int .i64 x19]] → esref36_parseRule.j3 x1 x17 x18 x19 x29 = some os20 → K27 ρ w := by
      intro x29 ρ w h28_0 h28_2 h28_4 h28_6 h28_7 hs hf
      refine hK27 _ _ ?_
      unfold esref36_parseRule.j3 at hf
      refine W.seqK fun K31 hK31 => ?_
      refine W.region ?_
      refine WL.loadN (vs := [.int .i64 x17, .int .i64 x29]) hs 0 rfl TI32 h28_7 rfl rfl ?_
      refine WL.buildSlice (n := 1) (vs := [(0, .agg ([.int .i64 x17, .int .i64 x29] : List Value).toArray)]) (cs := [.int .i64 x17, .int .i64 x29]) hs ⟨⟨rfl, rfl⟩, trivial⟩ (bls PS24 (by decide) rfl) (fun g32 w hs => ?_)
      have hs := hs.ownLit (A := t_adversary_Rule) (xs := [(⟨x17, x29⟩ : adversary_Rule)]) 0 rfl (fun ok hA => (Cells.one (T := t_adversary_Rule) (show t_adversary_Rule.R ok _ (⟨x17, x29⟩ : adversary_Rule) _ from ⟨[.int .i64 x17], [.int .i64 x29], rfl, rfl, rfl⟩))) (Nat.le_of_ble_eq_true rfl)
      have hs := hs.freezeOwn 0 rfl
      obtain ⟨x33, hxx33, hf⟩ := bindE hf
      refine WL.call (vs := [.slice (some ⟨g32, 0, none⟩) ([(⟨x17, x29⟩ : adversary_Rule)]).length 1]) hs FN7 ⟨rfl, trivial⟩ (fun ok hA => esref36_Format.calls (x1 := [(⟨x17, x29⟩ : adversary_Rule)]) hxx33 (hA.get 0 rfl)) ?_
      rintro _ w hs
      refine WL.assign (v := bstr x33) rfl ?_
      refine WL.nil ?_
      refine hK31 _ _ ?_
      refine W.seqK fun K34 hK34 => ?_
      have Jk37 : ∀ (x36 : Bool) (ρ : Env) (w : World), ρ 0 = bstr x1 → ρ 2 = .pointer (some ⟨g3, 0, none⟩) → ρ 4 = .int .i64 x7 → ρ 6 = .int .i64 x17 → ρ 7 = .pointer (some ⟨g26, 0, none⟩) → ρ 56 = .bool x36 → St ok (bz w0) w [] [blk g26 32 [.int .i64 x17, .int .i64 x29], blk g3 32 [.int .i64 x18, .int .i64 x19]] → esref36_parseRule.j2 x17 x18 x19 x29 x36 = some os20 → K34 ρ w := by
        intro x36 ρ w h35_0 h35_2 h35_4 h35_6 h35_7 h35_56 hs hf
        refine hK34 _ _ ?_
        unfold esref36_parseRule.j2 at hf
        rcases iteE hf with ⟨hc38, hf⟩ | ⟨hc38, hf⟩
        {
        refine W.cond_true (bool_tr h35_56 hc38) ?_
        refine W.seqK fun K39 hK39 => ?_
        refine W.region ?_
        refine WL.loadN (vs := [.int .i64 x17, .int .i64 x29]) hs 0 rfl TI32 h35_7 rfl rfl ?_
        refine WL.storeAll (vs := [.int .i64 x17, .int .i64 x29]) hs 1 rfl TI32 h35_2 rfl rfl rfl (ones_of rfl) rfl (fun w hs => ?_)
        refine WL.assign (v := .bool true) rfl ?_
        refine WL.nil ?_
        refine hK39 _ _ ?_
        refine W.ret ?_
        have hr := Option.some.inj hf; subst hr
        have hr := hbbs20 _ rfl; subst hr
        have hf := hfs20
        have hr := Option.some.inj hf; subst hr
        have hs := hs.add (it := vl t_adversary_Rule (⟨x17, x29⟩ : adversary_Rule) (.agg [.int .i64 x17, .int .i64 x29].toArray)) fun ok hA => V_agg (show t_adversary_Rule.R ok _ _ _ from ⟨[.int .i64 x17], [.int .i64 x29], rfl, rfl, rfl⟩) rfl
        exact ⟨_, resOk_two rfl (res_all hs 1 rfl TI32 h35_2 rfl) rfl, [.int .i64 x17, .int .i64 x29], rfl, (hs.mask []).pick [0]⟩ }
        {
        refine W.cond_false (bool_tr h35_56 hc38) ?_
        refine W.skip ?_
        refine hK24 _ _ ?_
        refine W.region ?_
        refine WL.move (v := .int .i64 x17) h35_6 ?_
        obtain ⟨x40, ex40, hf⟩ := letE hf
        refine WL.bin (v := .int .i64 x40) rfl rfl (ib_as ex40 (ib_add _ _ _)) ?_
        refine WL.assign (v := .int .i64 x40) rfl ?_
        refine WL.nil ?_
        exact ⟨_, (Option.some.inj hf).symm, h35_0, h35_2, h35_4, rfl, (hs.mask [false, true]).pick []⟩ }
      refine W.region ?_
      refine WL.move (v := bstr x33) rfl ?_
      refine WL.binS (v := .bool (x33 != ([] : List UInt8))) rfl rfl (sb_neq _ _) ?_
      refine WL.move (v := .bool (x33 != ([] : List UInt8))) rfl ?_
      rcases iteE hf with ⟨hc41, hf⟩ | ⟨hc41, hf⟩
      {
      refine WL.move (v := bstr x33) rfl ?_ (hg := (wanted_of rfl rfl (bool_tr rfl hc41)).trans rfl)
      refine WL.move (v := bstr x1) h28_0 ?_ (hg := (wanted_of rfl rfl (bool_tr rfl hc41)).trans rfl)
      refine WL.binS (v := .bool (x33 == x1)) rfl rfl (sb_eql _ _) ?_ (hg := (wanted_of rfl rfl (bool_tr rfl hc41)).trans rfl)
      refine WL.pickT (v := .bool (x33 == x1)) (bool_tr rfl hc41) rfl ?_
      refine WL.nil ?_
      exact Jk37 (x33 == x1) _ _ h28_0 h28_2 h28_4 h28_6 h28_7 rfl ((hs.mask [true, true]).pick []) hf }
      {
      refine WL.pass ((wanted_of rfl rfl (bool_tr rfl hc41)).trans rfl) rfl ?_
      refine WL.pass ((wanted_of rfl rfl (bool_tr rfl hc41)).trans rfl) rfl ?_
      refine WL.pass ((wanted_of rfl rfl (bool_tr rfl hc41)).trans rfl) rfl ?_
      refine WL.pickF (v := .bool false) (bool_tr rfl hc41) rfl ?_
      refine WL.nil ?_
      exact Jk37 false _ _ h28_0 h28_2 h28_4 h28_6 h28_7 rfl ((hs.mask [true, true]).pick []) hf }
    refine W.seqK fun K42 hK42 => ?_
    refine W.region ?_
    refine WL.move (v := .int .i64 x17) h16_6 ?_
    refine WL.bin (v := .bool (decide (7 ≤ x17))) rfl rfl (ib_geq _ _ _) ?_
    refine WL.nil ?_
    refine hK42 _ _ ?_
    rcases iteE hf with ⟨hc43, hf⟩ | ⟨hc43, hf⟩
    {
    refine W.cond_true (bool_tr rfl hc43) ?_
    refine W.region ?_
    refine WL.fieldAddr (m := 1) rfl FA32_1 rfl ?_
    refine WL.store (vs := [.int .i64 0]) (cs' := [.int .i64 x17, .int .i64 0]) hs 0 rfl TI3 rfl rfl rfl rfl (ones_of rfl) (Nat.le_of_ble_eq_true rfl) rfl (fun w hs => ?_)
    refine WL.nil ?_
    exact Jk30 0 _ _ h16_0 h16_2 h16_4 h16_6 rfl ((hs.mask [true, true]).pick []) hf }
    {
    refine W.cond_false (bool_tr rfl hc43) ?_
    refine W.skip ?_
    exact Jk30 x7 _ _ h16_0 h16_2 h16_4 h16_6 rfl ((hs.mask [true, true]).pick []) hf } }
    {
    refine W.cond_false (bool_tr rfl hc23) ?_
    refine W.exit ?_
    have hr := Option.some.inj hf; subst hr
    have hr := hbbs20 _ rfl; subst hr
    have hf := hfs20
    exact Jk13 x18 x19 _ _ h16_2 ((hs.mask [true]).pick []) hf }
  refine W.seqK fun K48 hK48 => ?_
  refine W.region ?_
  refine WL.move (v := bstr x1) rfl ?_
  refine WL.len (v := bstr x1) rfl (len_string UN9) ?_
  obtain ⟨x49, ex49, hf⟩ := letE hf
  refine WL.bin (v := .int .i64 x49) rfl rfl (ib_as ex49 (ib_sub _ _ _)) ?_
  refine WL.max rfl rfl ?_
  refine WL.assign (v := .int .i64 (maxI 0 x49)) rfl ?_
  refine WL.nil ?_
  refine hK48 _ _ ?_
  refine W.block ?_
  obtain ⟨bs53, hbs53, hfs53⟩ := bindE hf
  refine W.loop hbs53 (fun s ρ w => match s with | (x51, x52) => ρ 0 = bstr x1 ∧ ρ 2 = .pointer (some ⟨g3, 0, none⟩) ∧ ρ 4 = .int .i64 x51 ∧ ρ 5 = .int .i64 x52 ∧ St ok (bz w0) w [] [blk g3 32 [.int .i64 0, .int .i64 0]]) ⟨rfl, rfl, rfl, rfl, (hs.mask [true]).pick []⟩ ?_
  intro s ρ w os53 hI hf hbbs53
  obtain ⟨x51, x52⟩ := s
  obtain ⟨h50_0, h50_2, h50_4, h50_5, hs⟩ := hI
  unfold esref36_parseRule.l2 at hf
  refine W.seqK fun K54 hK54 => ?_
  refine W.seqK fun K55 hK55 => ?_
  refine W.region ?_
  refine WL.move (v := .int .i64 x52) h50_5 ?_
  refine WL.move (v := bstr x1) h50_0 ?_
  refine WL.len (v := bstr x1) rfl (len_string UN9) ?_
  refine WL.bin (v := .bool (decide (x52 < (x1.length : Int)))) rfl rfl (ib_lss _ _ _) ?_
  refine WL.nil ?_
  refine hK55 _ _ ?_
  rcases iteE hf with ⟨hc56, hf⟩ | ⟨hc56, hf⟩
  {
  refine W.cond_true (bool_tr rfl hc56) ?_
  refine W.skip ?_
  refine hK54 _ _ ?_
  refine W.seqK fun K57 hK57 => ?_
  have Jk60 : ∀ (x59 : Int) (ρ : Env) (w : World), ρ 0 = bstr x1 → ρ 2 = .pointer (some ⟨g3, 0, none⟩) → ρ 4 = .int .i64 x59 → ρ 5 = .int .i64 x52 → St ok (bz w0) w [] [blk g3 32 [.int .i64 0, .int .i64 0]] → esref36_parseRule.j5 x52 x59 = some os53 → K57 ρ w := by
    intro x59 ρ w h58_0 h58_2 h58_4 h58_5 hs hf
    refine hK57 _ _ ?_
    unfold esref36_parseRule.j5 at hf
    refine W.region ?_
    refine WL.move (v := .int .i64 x52) h58_5 ?_
    obtain ⟨x61, ex61, hf⟩ := letE hf
    refine WL.bin (v := .int .i64 x61) rfl rfl (ib_as ex61 (ib_add _ _ _)) ?_
    refine WL.assign (v := .int .i64 x61) rfl ?_
    refine WL.nil ?_
    exact ⟨_, (Option.some.inj hf).symm, h58_0, h58_2, h58_4, rfl, (hs.mask [true]).pick []⟩
  refine W.block ?_
  refine W.seqK fun K62 hK62 => ?_
  have Jk65 : ∀ (x64 : Bool) (ρ : Env) (w : World), ρ 0 = bstr x1 → ρ 2 = .pointer (some ⟨g3, 0, none⟩) → ρ 4 = .int .i64 x51 → ρ 5 = .int .i64 x52 → ρ 28 = .bool x64 → St ok (bz w0) w [] [blk g3 32 [.int .i64 0, .int .i64 0]] → esref36_parseRule.j6 x1 x51 x52 x64 = some os53 → K62 ρ w := by
    intro x64 ρ w h63_0 h63_2 h63_4 h63_5 h63_28 hs hf
    refine hK62 _ _ ?_
    unfold esref36_parseRule.j6 at hf
    rcases iteE hf with ⟨hc66, hf⟩ | ⟨hc66, hf⟩
    {
    refine W.cond_true (bool_tr h63_28 hc66) ?_
    refine W.region ?_
    refine WL.move (v := .int .i64 x51) h63_4 ?_
    obtain ⟨x67, ex67, hf⟩ := letE hf
    refine WL.bin (v := .int .i64 x67) rfl rfl (ib_as ex67 (ib_mul _ _ _)) ?_
    refine WL.move (v := bstr x1) h63_0 ?_
    refine WL.move (v := .int .i64 x52) h63_5 ?_
    obtain ⟨x68, hxx68, hf⟩ := bindE hf
    refine WL.indexS UN9 rfl rfl hxx68 ?_
    obtain ⟨x69, ex69, hf⟩ := letE hf
    refine WL.bin (v := .int .u8 x69) rfl rfl (ib_as ex69 (ib_sub _ _ _)) ?_
    refine WL.convI UN5 UN3 rfl ?_
    obtain ⟨x70, ex70, hf⟩ := letE hf
    refine WL.bin (v := .int .i64 x70) rfl rfl (ib_as ex70 (ib_add _ _ _)) ?_
    refine WL.assign (v := .int .i64 x70) rfl ?_
    refine WL.nil ?_
    exact Jk60 x70 _ _ h63_0 h63_2 rfl h63_5 ((hs.mask [true]).pick []) hf }
    {
    refine W.cond_false (bool_tr h63_28 hc66) ?_
    refine W.skip ?_
    exact Jk60 x51 _ _ h63_0 h63_2 h63_4 h63_5 ((hs.mask [true]).pick []) hf }
  refine W.region ?_
  refine WL.move (v := bstr x1) h50_0 ?_
  refine WL.move (v := .int .i64 x52) h50_5 ?_
  obtain ⟨x71, hxx71, hf⟩ := bindE hf
  refine WL.indexS UN9 rfl rfl hxx71 ?_
  refine WL.bin (v := .bool (decide (48 ≤ (x71.toNat : Int)))) rfl rfl (ib_geq _ _ _) ?_
  refine WL.move (v := .bool (decide (48 ≤ (x71.toNat : Int)))) rfl ?_
  rcases iteE hf with ⟨hc72, hf⟩ | ⟨hc72, hf⟩
  {
  refine WL.move (v := bstr x1) h50_0 ?_ (hg := (wanted_of rfl rfl (bool_tr rfl hc72)).trans rfl)
  refine WL.move (v := .int .i64 x52) h50_5 ?_ (hg := (wanted_of rfl rfl (bool_tr rfl hc72)).trans rfl)
  obtain ⟨x73, hxx73, hf⟩ := bindE hf
  refine WL.indexS UN9 rfl rfl hxx73 ?_ (hg := (wanted_of rfl rfl (bool_tr rfl hc72)).trans rfl)
  refine WL.bin (v := .bool (decide ((x73.toNat : Int) ≤ 57))) rfl rfl (ib_leq _ _ _) ?_ (hg := (wanted_of rfl rfl (bool_tr rfl hc72)).trans rfl)
  refine WL.pickT (v := .bool (decide ((x73.toNat : Int) ≤ 57))) (bool_tr rfl hc72) rfl ?_
  refine WL.nil ?_
  exact Jk65 (decide ((x73.toNat : Int) ≤ 57)) _ _ h50_0 h50_2 h50_4 h50_5 rfl ((hs.mask [true]).pick []) hf }
  {
  refine WL.pass ((wanted_of rfl rfl (bool_tr rfl hc72)).trans rfl) rfl ?_
  refine WL.pass ((wanted_of rfl rfl (bool_tr rfl hc72)).trans rfl) rfl ?_
  refine WL.pass ((wanted_of rfl rfl (bool_tr rfl hc72)).trans rfl) rfl ?_
  refine WL.pass ((wanted_of rfl rfl (bool_tr rfl hc72)).trans rfl) rfl ?_
  refine WL.pickF (v := .bool false) (bool_tr rfl hc72) rfl ?_
  refine WL.nil ?_
  exact Jk65 false _ _ h50_0 h50_2 h50_4 h50_5 rfl ((hs.mask [true]).pick []) hf } }
  {
  refine W.cond_false (bool_tr rfl hc56) ?_
  refine W.exit ?_
  have hr := Option.some.inj hf; subst hr
  have hr := hbbs53 _ rfl; subst hr
  have hf := hfs53
  exact Jk8 x51 _ _ h50_0 h50_2 h50_4 ((hs.mask [true]).pick []) hf }
theorem esref36_Parse.calls {ok : Nat → Prop} {w0 : World} {x1 : List UInt8}  {r : (List adversary_Rule) × Int} (hf : esref36_Parse x1 = some r)  :
    Calls Tryd.prog 11 #[bstr x1] w0 fun e w' => ∃ v, e = .returned v ∧ ∃ y : (Option Addr × Nat × Nat), v = .tuple #[.slice y.1 y.2.1 y.2.2, .int .i64 r.2] ∧ St ok (bz w0) w' [] [own t_adversary_Rule 32 (.slice y.1 y.2.1 y.2.2) r.1] := by
  unfold esref36_Parse at hf
  refine calls_of_W (fn := Tryd.f11) (N := 37) Tryd.func11 rfl Tryd.ntmps11 rfl ?_
  have hs : St ok (bz w0) w0 [] [] := St.init All.nil
  refine W.seqK fun K2 hK2 => ?_
  refine W.region ?_
  refine WL.assign (v := .slice none 0 0) rfl ?_
  refine WL.assign (v := .int .i64 0) rfl ?_
  refine WL.nil ?_
  refine hK2 _ _ ?_
  refine W.seqK fun K3 hK3 => ?_
  refine W.seqK fun K4 hK4 => ?_
  refine W.region ?_
  refine WL.move (v := bstr x1) rfl ?_
  refine WL.binS (v := .bool (x1 == ([] : List UInt8))) rfl rfl (sb_eql _ _) ?_
  refine WL.nil ?_
  refine hK4 _ _ ?_
  rcases iteE hf with ⟨hc5, hf⟩ | ⟨hc5, hf⟩
  {
  refine W.cond_true (bool_tr rfl hc5) ?_
  refine W.seqK fun K6 hK6 => ?_
  refine W.region ?_
  refine WL.assign (v := .slice none 0 0) rfl ?_
  refine WL.assign (v := .int .i64 0) rfl ?_
  refine WL.nil ?_
  refine hK6 _ _ ?_
  refine W.ret ?_
  have hr := Option.some.inj hf; subst hr
  have hs := hs.ownNil t_adversary_Rule 32
  exact ⟨_, resOk_two rfl rfl rfl, (none, 0, 0), rfl, (hs.mask [true]).pick []⟩ }
  {
  refine W.cond_false (bool_tr rfl hc5) ?_
  refine W.skip ?_
  refine hK3 _ _ ?_
  refine W.seqK fun K7 hK7 => ?_
  refine W.region ?_
  refine WL.move (v := bstr x1) rfl ?_
  obtain ⟨x8, hxx8, hf⟩ := bindE hf
  refine WL.call (vs := [bstr x1]) hs FN23 ⟨rfl, trivial⟩ (fun ok hA => esref36_split.calls (x1 := x1) hxx8) ?_
  rintro ⟨a9, n10, c11⟩ w hs
  refine WL.assign (v := .slice a9 n10 c11) rfl ?_
  refine WL.nil ?_
  refine hK7 _ _ ?_
  refine W.seqK fun K12 hK12 => ?_
  refine W.seqK fun K13 hK13 => ?_
  refine W.region ?_
  refine WL.move (v := .slice a9 n10 c11) rfl ?_
  refine WL.len (v := .slice a9 n10 c11) rfl (len_own hs 0 rfl UN34) ?_
  refine WL.bin (v := .bool (decide (16 < (x8.length : Int)))) rfl rfl (ib_gtr _ _ _) ?_
  refine WL.nil ?_
  refine hK13 _ _ ?_
  rcases iteE hf with ⟨hc14, hf⟩ | ⟨hc14, hf⟩
  {
  refine W.cond_true (bool_tr rfl hc14) ?_
  refine W.seqK fun K15 hK15 => ?_
  refine W.region ?_
  refine WL.assign (v := .slice none 0 0) rfl ?_
  refine WL.assign (v := .int .i64 11) rfl ?_
  refine WL.nil ?_
  refine hK15 _ _ ?_
  refine W.ret ?_
  have hr := Option.some.inj hf; subst hr
  have hs := hs.ownNil t_adversary_Rule 32
  exact ⟨_, resOk_two rfl rfl rfl, (none, 0, 0), rfl, (hs.mask [true]).pick []⟩ }
  {
  refine W.cond_false (bool_tr rfl hc14) ?_
  refine W.skip ?_
  refine hK12 _ _ ?_
  refine W.seqK fun K16 hK16 => ?_
  refine W.region ?_
  refine WL.assign (v := .slice none 0 0) rfl ?_
  refine WL.nil ?_
  refine hK16 _ _ ?_
  refine W.seqK fun K17 hK17 => ?_
  have hs := hs.ownNil t_adversary_Rule 32
  have Jk23 : ∀ (x19 : List adversary_Rule) (a20 : Option Addr) (c21 : Nat) (n22 : Nat) (ρ : Env) (w : World), ρ 5 = .slice a20 n22 c21 → St ok (bz w0) w [] [own t_adversary_Rule 32 (.slice a20 n22 c21) x19] → esref36_Parse.j1 x19 = some r → K17 ρ w := by
    intro x19 a20 c21 n22 ρ w h18_5 hs hf
    refine hK17 _ _ ?_
    unfold esref36_Parse.j1 at hf
    refine W.seqK fun K24 hK24 => ?_
    refine W.region ?_
    refine WL.move (v := .slice a20 n22 c21) h18_5 ?_
    refine WL.assign (v := .slice a20 n22 c21) rfl ?_
    refine WL.assign (v := .int .i64 0) rfl ?_
    refine WL.nil ?_
    refine hK24 _ _ ?_
    refine W.ret ?_
    have hr := Option.some.inj hf; subst hr
    exact ⟨_, resOk_two rfl rfl rfl, (a20, n22, c21), rfl, (hs.mask [true]).pick []⟩
  refine W.seqK fun K25 hK25 => ?_
  refine W.region ?_
  refine WL.assign (v := .int .i64 0) rfl ?_
  refine WL.nil ?_
  refine hK25 _ _ ?_
  refine W.block ?_
  obtain ⟨bs32, hbs32, hfs32⟩ := bindE hf
  refine W.loop hbs32 (fun s ρ w => match s with | (x27, x31) => ∃ (a28 : Option Addr), ∃ (c29 : Nat), ∃ (n30 : Nat), ρ 4 = .slice a9 n10 c11 ∧ ρ 5 = .slice a28 n30 c29 ∧ ρ 6 = .int .i64 x31 ∧ St ok (bz w0) w [] [own t_adversary_Rule 32 (.slice a28 n30 c29) x27, own tStr 9 (.slice a9 n10 c11) x8]) ⟨none, 0, 0, rfl, rfl, rfl, (hs.mask [true, true]).pick []⟩ ?_
  intro s ρ w os32 hI hf hbbs32
  obtain ⟨x27, x31⟩ := s
  obtain ⟨a28, c29, n30, h26_4, h26_5, h26_6, hs⟩ := hI
  unfold esref36_Parse.l1 at hf
  refine W.seqK fun K33 hK33 => ?_
  refine W.seqK fun K34 hK34 => ?_
  refine W.region ?_
  refine WL.move (v := .int .i64 x31) h26_6 ?_
  refine WL.move (v := .slice a9 n10 c11) h26_4 ?_
  refine WL.len (v := .slice a9 n10 c11) rfl (len_own hs 1 rfl UN34) ?_
  refine WL.bin (v := .bool (decide (x31 < (x8.length : Int)))) rfl rfl (ib_lss _ _ _) ?_
  refine WL.nil ?_
  refine hK34 _ _ ?_
  rcases iteE hf with ⟨hc35, hf⟩ | ⟨hc35, hf⟩
  {
  refine W.cond_true (bool_tr rfl hc35) ?_
  refine W.skip ?_
  refine hK33 _ _ ?_
  refine W.seqK fun K36 hK36 => ?_
  refine W.block ?_
  refine W.seqK fun K37 hK37 => ?_
  refine W.region ?_
  refine WL.move (v := .slice a9 n10 c11) h26_4 ?_
  refine WL.move (v := .int .i64 x31) h26_6 ?_
  obtain ⟨x38, hxx38, hf⟩ := bindE hf
  refine WL.indexAddrO hs 1 rfl UN34 TI9 rfl rfl hxx38 (fun ad39 hatad39 => ?_)
  refine WL.loadO hs 1 rfl TI9 (.inr rfl) hatad39 hxx38 rfl (fun v40 hs => ?_)
  obtain rfl := hs.str 0 rfl
  obtain ⟨⟨x41, x42⟩, hxx41, hf⟩ := bindE hf
  refine WL.call (vs := [bstr x38]) hs FN24 ⟨rfl, trivial⟩ (fun ok hA => esref36_parseRule.calls (x1 := x38) hxx41) ?_
  rintro cs43 w hs
  have hl44 := hs.agglen (n := 2) 0 rfl rfl rfl
  refine WL.move (v := .tuple #[.agg cs43.toArray, .bool x42]) rfl ?_
  refine WL.extract (v := .agg cs43.toArray) rfl rfl ?_
  refine WL.extract (v := .bool x42) rfl rfl ?_
  refine WL.alloc hs ZV32 (fun g45 w hs => ?_)
  refine WL.storeAll (vs := cs43) hs 0 rfl TI32 rfl rfl rfl hl44 (hs.ones 0 rfl rfl) rfl (fun w hs => ?_)
  refine WL.assign (v := .bool x42) rfl ?_
  refine WL.nil ?_
  refine hK37 _ _ ?_
  refine W.seqK fun K46 hK46 => ?_
  refine W.seqK fun K47 hK47 => ?_
  refine W.region ?_
  refine WL.move (v := .bool x42) rfl ?_
  refine WL.not rfl ?_
  refine WL.nil ?_
  refine hK47 _ _ ?_
  rcases iteE hf with ⟨hc48, hf⟩ | ⟨hc48, hf⟩
  {
  refine W.cond_true (bool_tr rfl hc48) ?_
  refine W.seqK fun K49 hK49 => ?_
  refine W.region ?_
  refine WL.assign (v := .slice none 0 0) rfl ?_
  refine WL.assign (v := .int .i64 11) rfl ?_
  refine WL.nil ?_
  refine hK49 _ _ ?_
  refine W.ret ?_
  have hr := Option.some.inj hf; subst hr
  have hr := hbbs32 _ rfl; subst hr
  have hf := hfs32
  have hr := Option.some.inj hf; subst hr
  have hs := hs.ownNil t_adversary_Rule 32
  exact ⟨_, resOk_two rfl rfl rfl, (none, 0, 0), rfl, (hs.mask [true]).pick []⟩ }
  {
  refine W.cond_false (bool_tr rfl hc48) ?_
  refine W.skip ?_
  refine hK46 _ _ ?_
  refine W.region ?_
  refine WL.move (v := .slice a28 n30 c29) h26_5 ?_
  refine WL.loadAll hs 0 rfl TI32 rfl hl44 ?_
  refine WL.buildSlice (n := 1) (vs := [(0, .agg cs43.toArray)]) (cs := cs43) hs ⟨⟨rfl, rfl⟩, trivial⟩ (bls PS24 (by decide) (by simp [fillS, fillL, Value.cells, hl44])) (fun g50 w hs => ?_)
  obtain ⟨x51, hxx51, hf⟩ := bindE hf
  obtain ⟨hbx51, hex51⟩ := appE hxx51
  refine WL.append (ys := [x41]) (zs := x51) hs 2 rfl 0 rfl UN24 EI32 rfl rfl (fun ok hA => (Cells.one (T := t_adversary_Rule) (R_agg (hA.get 0 rfl) rfl))) hbx51 (by omega) hex51 (fun v52 w hs => ?_)
  obtain ⟨a53, n55, c54, rfl⟩ := hs.ownv3 2 rfl
  refine WL.assign (v := .slice a53 n55 c54) rfl ?_
  refine WL.nil ?_
  refine hK36 _ _ ?_
  refine W.region ?_
  refine WL.move (v := .int .i64 x31) h26_6 ?_
  obtain ⟨x56, ex56, hf⟩ := letE hf
  refine WL.bin (v := .int .i64 x56) rfl rfl (ib_as ex56 (ib_add _ _ _)) ?_
  refine WL.assign (v := .int .i64 x56) rfl ?_
  refine WL.nil ?_
  exact ⟨_, (Option.some.inj hf).symm, a53, c54, n55, h26_4, rfl, rfl, (hs.mask [false, false, true, true]).pick []⟩ } }
  {
  refine W.cond_false (bool_tr rfl hc35) ?_
  refine W.exit ?_
  have hr := Option.some.inj hf; subst hr
  have hr := hbbs32 _ rfl; subst hr
  have hf := hfs32
  exact Jk23 x27 a28 c29 n30 _ _ h26_5 ((hs.mask [true]).pick []) hf } } }
end Go.Proofs.YthcohhpmpdijoaaDoor
