import Derived.Test.YthfoljpjhegkmaaDoorFh
import Derived.Test.YthfoljpjhegkmaaDoorLw
import Derived.Test.YthfoljpjhegkmaaDoorFp1
import Derived.Test.YthfoljpjhegkmaaDoorFp2
import Derived.Test.YthfoljpjhegkmaaDoorFp4
set_option linter.unusedVariables false
set_option linter.unusedSimpArgs false
namespace Go.Proofs.YthfoljpjhegkmaaDoor
open Go Go.RowKit Go.Proofs.YthfoljpjhegkmaaDoorL
set_option maxRecDepth 100000
set_option maxHeartbeats 4000000
/-! elasticstore/command.Compile: function 14 -/
theorem command_Compile.calls {ok : Nat → Prop} {w0 : World} {x1 : List UInt8} {x2 : api_Summary} {v3 : Value} {r : (List api_Change) × Int × Int} (hf : command_Compile x1 x2 = some r) (i0 : (vl t_api_Summary x2 v3).holds ok w0) :
    Calls Tryd.prog 14 #[bstr x1, v3] w0 fun e w' => ∃ v, e = .returned v ∧ ∃ y : (Option Addr × Nat × Nat), v = .tuple #[.slice y.1 y.2.1 y.2.2, .int .i64 r.2.1, .int .i64 r.2.2] ∧ St ok (bz w0) w' [] [own t_api_Change 26 (.slice y.1 y.2.1 y.2.2) r.1] := by
  unfold command_Compile at hf
  refine calls_of_W (fn := Tryd.f14) (N := 55) Tryd.func14 rfl Tryd.ntmps14 rfl ?_
  have hs : St ok (bz w0) w0 [vl t_api_Summary x2 v3] [] := St.init (All.cons i0 All.nil)
  clear i0
  obtain ⟨cs4, hl5, rfl⟩ := hs.aggv (n := 9) 0 rfl rfl rfl
  refine W.seqK fun K6 hK6 => ?_
  refine W.region ?_
  refine WL.box (vs := cs4) hs rfl rfl (fun g7 w hs => ?_)
  refine WL.assign (v := .slice none 0 0) rfl ?_
  refine WL.assign (v := .int .i64 0) rfl ?_
  refine WL.assign (v := .int .i64 0) rfl ?_
  refine WL.nil ?_
  refine hK6 _ _ ?_
  refine W.seqK fun K8 hK8 => ?_
  refine W.region ?_
  refine WL.assign (v := .slice none 0 0) rfl ?_
  refine WL.nil ?_
  refine hK8 _ _ ?_
  refine W.seqK fun K9 hK9 => ?_
  have hs := hs.ownNil t_api_Change 26
  have Jk15 : ∀ (x11 : List api_Change) (a12 : Option Addr) (c13 : Nat) (n14 : Nat) (ρ : Env) (w : World), ρ 7 = .slice a12 n14 c13 → St ok (bz w0) w [] [own t_api_Change 26 (.slice a12 n14 c13) x11] → command_Compile.j1 x11 = some r → K9 ρ w := by
    intro x11 a12 c13 n14 ρ w h10_7 hs hf
    refine hK9 _ _ ?_
    unfold command_Compile.j1 at hf
    refine W.seqK fun K16 hK16 => ?_
    refine W.seqK fun K17 hK17 => ?_
    refine W.region ?_
    refine WL.move (v := .slice a12 n14 c13) h10_7 ?_
    refine WL.len (v := .slice a12 n14 c13) rfl (len_own hs 0 rfl UN38) ?_
    refine WL.bin (v := .bool ((x11.length : Int) == 0)) rfl rfl (ib_eql _ _ _) ?_
    refine WL.nil ?_
    refine hK17 _ _ ?_
    rcases iteE hf with ⟨hc18, hf⟩ | ⟨hc18, hf⟩
    {
    refine W.cond_true (bool_tr rfl hc18) ?_
    refine W.seqK fun K19 hK19 => ?_
    refine W.region ?_
    refine WL.assign (v := .slice none 0 0) rfl ?_
    refine WL.assign (v := .int .i64 0) rfl ?_
    refine WL.assign (v := .int .i64 2) rfl ?_
    refine WL.nil ?_
    refine hK19 _ _ ?_
    refine W.ret ?_
    have hr := Option.some.inj hf; subst hr
    have hs := hs.ownNil t_api_Change 26
    exact ⟨_, resOk_three rfl rfl rfl rfl, (none, 0, 0), rfl, (hs.mask [true]).pick []⟩ }
    {
    refine W.cond_false (bool_tr rfl hc18) ?_
    refine W.skip ?_
    refine hK16 _ _ ?_
    refine W.seqK fun K20 hK20 => ?_
    refine W.region ?_
    refine WL.move (v := .slice a12 n14 c13) h10_7 ?_
    refine WL.assign (v := .slice a12 n14 c13) rfl ?_
    refine WL.assign (v := .int .i64 0) rfl ?_
    refine WL.assign (v := .int .i64 0) rfl ?_
    refine WL.nil ?_
    refine hK20 _ _ ?_
    refine W.ret ?_
    have hr := Option.some.inj hf; subst hr
    exact ⟨_, resOk_three rfl rfl rfl rfl, (a12, n14, c13), rfl, (hs.mask [true]).pick []⟩ }
  refine W.seqK fun K21 hK21 => ?_
  refine W.region ?_
  refine WL.move (v := bstr x1) rfl ?_
  obtain ⟨x22, hxx22, hf⟩ := bindE hf
  refine WL.call (vs := [bstr x1, bstr ([10] : List UInt8)]) hs FN36 ⟨rfl, ⟨rfl, trivial⟩⟩ (fun ok hA => strings_Split.calls (x1 := x1) (x2 := ([10] : List UInt8)) hxx22) ?_
  rintro ⟨a23, c24⟩ w hs
  refine WL.len (v := .slice a23 x22.length c24) rfl (len_slice UN44) ?_
  refine WL.move (v := .int .i64 0) rfl ?_
  refine WL.nil ?_
  refine hK21 _ _ ?_
  refine W.block ?_
  obtain ⟨bs31, hbs31, hfs31⟩ := bindE hf
  refine W.loop hbs31 (fun s ρ w => match s with | (x26, x30) => ∃ (a27 : Option Addr), ∃ (c28 : Nat), ∃ (n29 : Nat), ρ 3 = .pointer (some ⟨g7, 0, none⟩) ∧ ρ 7 = .slice a27 n29 c28 ∧ ρ 13 = .slice a23 x22.length c24 ∧ ρ 14 = .int .i64 (x22.length : Int) ∧ ρ 15 = .int .i64 x30 ∧ St ok (bz w0) w [vl (tSlice tStr) x22 (.slice a23 x22.length c24), vl t_api_Summary x2 (.agg cs4.toArray)] [own t_api_Change 26 (.slice a27 n29 c28) x26, blk g7 36 cs4]) ⟨none, 0, 0, rfl, rfl, rfl, rfl, rfl, (hs.mask [true, true]).pick [0, 1]⟩ ?_
  intro s ρ w os31 hI hf hbbs31
  obtain ⟨x26, x30⟩ := s
  obtain ⟨a27, c28, n29, h25_3, h25_7, h25_13, h25_14, h25_15, hs⟩ := hI
  unfold command_Compile.l1 at hf
  refine W.seqK fun K32 hK32 => ?_
  refine W.region ?_
  refine WL.bin (v := .bool (decide (x30 < (x22.length : Int)))) h25_15 h25_14 (ib_lss _ _ _) ?_
  refine WL.nil ?_
  refine hK32 _ _ ?_
  refine W.seqK fun K33 hK33 => ?_
  rcases iteE hf with ⟨hc34, hf⟩ | ⟨hc34, hf⟩
  {
  refine W.cond_true (bool_tr rfl hc34) ?_
  refine W.skip ?_
  refine hK33 _ _ ?_
  refine W.seqK fun K35 hK35 => ?_
  have Jk41 : ∀ (x37 : List api_Change) (a38 : Option Addr) (c39 : Nat) (n40 : Nat) (ρ : Env) (w : World), ρ 3 = .pointer (some ⟨g7, 0, none⟩) → ρ 7 = .slice a38 n40 c39 → ρ 13 = .slice a23 x22.length c24 → ρ 14 = .int .i64 (x22.length : Int) → ρ 15 = .int .i64 x30 → St ok (bz w0) w [vl (tSlice tStr) x22 (.slice a23 x22.length c24), vl t_api_Summary x2 (.agg cs4.toArray)] [own t_api_Change 26 (.slice a38 n40 c39) x37, blk g7 36 cs4] → command_Compile.j2 x30 x37 = some os31 → K35 ρ w := by
    intro x37 a38 c39 n40 ρ w h36_3 h36_7 h36_13 h36_14 h36_15 hs hf
    refine hK35 _ _ ?_
    unfold command_Compile.j2 at hf
    refine W.region ?_
    obtain ⟨x42, ex42, hf⟩ := letE hf
    refine WL.bin (v := .int .i64 x42) h36_15 rfl (ib_as ex42 (ib_add _ _ _)) ?_
    refine WL.move (v := .int .i64 x42) rfl ?_
    refine WL.nil ?_
    exact ⟨_, (Option.some.inj hf).symm, a38, c39, n40, h36_3, h36_7, h36_13, h36_14, rfl, (hs.mask [true, true]).pick [0, 1]⟩
  refine W.block ?_
  refine W.seqK fun K43 hK43 => ?_
  refine W.region ?_
  refine WL.move (v := .int .i64 x30) h25_15 ?_
  obtain ⟨x44, hxx44, hf⟩ := bindE hf
  refine WL.indexAddr hs 0 rfl UN44 TI9 h25_13 h25_15 hxx44 (fun ad45 hs => ?_)
  refine WL.loadP hs 0 rfl TI9 (.inr rfl) rfl (fun v46 hs => ?_)
  obtain rfl := hs.str 0 rfl
  refine WL.assign (v := .int .i64 x30) rfl ?_
  refine WL.assign (v := bstr x44) rfl ?_
  refine WL.nil ?_
  refine hK43 _ _ ?_
  refine W.seqK fun K47 hK47 => ?_
  refine W.seqK fun K48 hK48 => ?_
  have Jk51 : ∀ (x50 : Bool) (ρ : Env) (w : World), ρ 3 = .pointer (some ⟨g7, 0, none⟩) → ρ 7 = .slice a27 n29 c28 → ρ 8 = .int .i64 x30 → ρ 9 = bstr x44 → ρ 13 = .slice a23 x22.length c24 → ρ 14 = .int .i64 (x22.length : Int) → ρ 15 = .int .i64 x30 → ρ 26 = .bool x50 → St ok (bz w0) w [vl (tSlice tStr) x22 (.slice a23 x22.length c24), vl t_api_Summary x2 (.agg cs4.toArray)] [own t_api_Change 26 (.slice a27 n29 c28) x26, blk g7 36 cs4] → command_Compile.j4 x2 x26 x30 x44 x50 = some os31 → K48 ρ w := by
    intro x50 ρ w h49_3 h49_7 h49_8 h49_9 h49_13 h49_14 h49_15 h49_26 hs hf
    refine hK48 _ _ ?_
    unfold command_Compile.j4 at hf
    rcases iteE hf with ⟨hc52, hf⟩ | ⟨hc52, hf⟩
    {
    refine W.cond_true (bool_tr h49_26 hc52) ?_
    refine W.exit ?_
    exact Jk41 x26 a27 c28 n29 _ _ h49_3 h49_7 h49_13 h49_14 h49_15 ((hs.mask [true, true]).pick [0, 1]) hf }
    {
    refine W.cond_false (bool_tr h49_26 hc52) ?_
    refine W.skip ?_
    refine hK47 _ _ ?_
    refine W.seqK fun K53 hK53 => ?_
    refine W.region ?_
    refine WL.move (v := bstr x44) h49_9 ?_
    obtain ⟨⟨x54, x55⟩, hxx54, hf⟩ := bindE hf
    refine WL.call (vs := [bstr x44]) hs FN9 ⟨rfl, trivial⟩ (fun ok hA => command_Parse.calls (x1 := x44) hxx54) ?_
    rintro cs56 w hs
    have hl57 := hs.agglen (n := 7) 0 rfl rfl rfl
    refine WL.move (v := .tuple #[.agg cs56.toArray, .int .i64 x55]) rfl ?_
    refine WL.extract (v := .agg cs56.toArray) rfl rfl ?_
    refine WL.extract (v := .int .i64 x55) rfl rfl ?_
    refine WL.alloc hs ZV26 (fun g58 w hs => ?_)
    refine WL.storeAll (vs := cs56) hs 0 rfl TI26 rfl rfl rfl hl57 (hs.ones 0 rfl rfl) rfl (fun w hs => ?_)
    refine WL.assign (v := .int .i64 x55) rfl ?_
    refine WL.nil ?_
    refine hK53 _ _ ?_
    refine W.seqK fun K59 hK59 => ?_
    have Jk65 : ∀ (x61 : Int) (x62 : api_Change) (cs63 : List Value) (ρ : Env) (w : World), cs63.length = 7 → ρ 3 = .pointer (some ⟨g7, 0, none⟩) → ρ 7 = .slice a27 n29 c28 → ρ 8 = .int .i64 x30 → ρ 10 = .pointer (some ⟨g58, 0, none⟩) → ρ 11 = .int .i64 x61 → ρ 13 = .slice a23 x22.length c24 → ρ 14 = .int .i64 (x22.length : Int) → ρ 15 = .int .i64 x30 → St ok (bz w0) w [vl (tSlice tStr) x22 (.slice a23 x22.length c24), vl t_api_Change x62 (.agg cs63.toArray), vl t_api_Summary x2 (.agg cs4.toArray)] [blk g58 26 cs63, own t_api_Change 26 (.slice a27 n29 c28) x26, blk g7 36 cs4] → command_Compile.j3 x26 x30 x61 x62 = some os31 → K59 ρ w := by
      intro x61 x62 cs63 ρ w hl64 h60_3 h60_7 h60_8 h60_10 h60_11 h60_13 h60_14 h60_15 hs hf
      refine hK59 _ _ ?_
      unfold command_Compile.j3 at hf
      refine W.seqK fun K66 hK66 => ?_
      refine W.seqK fun K67 hK67 => ?_
      refine W.region ?_
      refine WL.move (v := .int .i64 x61) h60_11 ?_
      refine WL.bin (v := .bool (x61 != 0)) rfl rfl (ib_neq _ _ _) ?_
      refine WL.nil ?_
      refine hK67 _ _ ?_
      rcases iteE hf with ⟨hc68, hf⟩ | ⟨hc68, hf⟩
      {
      refine W.cond_true (bool_tr rfl hc68) ?_
      refine W.seqK fun K69 hK69 => ?_
      refine W.region ?_
      refine WL.move (v := .int .i64 x30) h60_8 ?_
      obtain ⟨x70, ex70, hf⟩ := letE hf
      refine WL.bin (v := .int .i64 x70) rfl rfl (ib_as ex70 (ib_add _ _ _)) ?_
      refine WL.move (v := .int .i64 x61) h60_11 ?_
      refine WL.assign (v := .slice none 0 0) rfl ?_
      refine WL.assign (v := .int .i64 x70) rfl ?_
      refine WL.assign (v := .int .i64 x61) rfl ?_
      refine WL.nil ?_
      refine hK69 _ _ ?_
      refine W.ret ?_
      have hr := Option.some.inj hf; subst hr
      have hr := hbbs31 _ rfl; subst hr
      have hf := hfs31
      have hr := Option.some.inj hf; subst hr
      have hs := hs.ownNil t_api_Change 26
      exact ⟨_, resOk_three rfl rfl rfl rfl, (none, 0, 0), rfl, (hs.mask [true]).pick []⟩ }
      {
      refine W.cond_false (bool_tr rfl hc68) ?_
      refine W.skip ?_
      refine hK66 _ _ ?_
      refine W.region ?_
      refine WL.move (v := .slice a27 n29 c28) h60_7 ?_
      refine WL.loadAll hs 0 rfl TI26 h60_10 hl64 ?_
      refine WL.buildSlice (n := 1) (vs := [(0, .agg cs63.toArray)]) (cs := cs63) hs ⟨⟨rfl, rfl⟩, trivial⟩ (bls PS38 (by decide) (by simp [fillS, fillL, Value.cells, hl64])) (fun g71 w hs => ?_)
      obtain ⟨x72, hxx72, hf⟩ := bindE hf
      obtain ⟨hbx72, hex72⟩ := appE hxx72
      refine WL.append (ys := [x62]) (zs := x72) hs 2 rfl 0 rfl UN38 EI26 rfl rfl (fun ok hA => (Cells.one (T := t_api_Change) (R_agg (hA.get 1 rfl) rfl))) hbx72 (by omega) hex72 (fun v73 w hs => ?_)
      obtain ⟨a74, n76, c75, rfl⟩ := hs.ownv3 2 rfl
      refine WL.assign (v := .slice a74 n76 c75) rfl ?_
      refine WL.nil ?_
      exact Jk41 x72 a74 c75 n76 _ _ h60_3 rfl h60_13 h60_14 h60_15 ((hs.mask [false, false, true, true]).pick [0, 2]) hf }
    refine W.seqK fun K77 hK77 => ?_
    refine W.region ?_
    refine WL.move (v := .int .i64 x55) rfl ?_
    refine WL.bin (v := .bool (x55 == 0)) rfl rfl (ib_eql _ _ _) ?_
    refine WL.nil ?_
    refine hK77 _ _ ?_
    rcases iteE hf with ⟨hc78, hf⟩ | ⟨hc78, hf⟩
    {
    refine W.cond_true (bool_tr rfl hc78) ?_
    refine W.region ?_
    refine WL.loadAll hs 0 rfl TI26 rfl hl57 ?_
    refine WL.loadAll hs 2 rfl TI36 h49_3 hl5 ?_
    refine WL.move (v := .slice a27 n29 c28) h49_7 ?_
    obtain ⟨⟨x79, x80⟩, hxx79, hf⟩ := bindE hf
    refine WL.callLF (vs := [.agg cs56.toArray, .agg cs4.toArray, .slice a27 x26.length c28]) hs FN37 ⟨rfl, ⟨rfl, ⟨(Eq.trans rfl (sl_len (hs.ownLen 1 rfl))), trivial⟩⟩⟩ (fun _ => by exact (flatC (fun _ _ _ _ h => h) flat0)) (command_check.calls (x1 := x54) (x5 := x2) (x9 := x26) hxx79 (hs.allT.get 0 rfl) (hs.allT.get 2 rfl) (hs.ownN 1 rfl)) ?_
    rintro cs81 w hs
    have hl82 := hs.agglen (n := 7) 0 rfl rfl rfl
    refine WL.move (v := .tuple #[.agg cs81.toArray, .int .i64 x80]) rfl ?_
    refine WL.extract (v := .agg cs81.toArray) rfl rfl ?_
    refine WL.extract (v := .int .i64 x80) rfl rfl ?_
    refine WL.storeAll (vs := cs81) hs 0 rfl TI26 rfl rfl rfl hl82 (hs.ones 0 rfl rfl) hl57 (fun w hs => ?_)
    refine WL.assign (v := .int .i64 x80) rfl ?_
    refine WL.nil ?_
    exact Jk65 x80 x79 cs81 _ _ hl82 h49_3 h49_7 h49_8 rfl rfl h49_13 h49_14 h49_15 ((hs.mask [true, true, true]).pick [2, 0, 3]) hf }
    {
    refine W.cond_false (bool_tr rfl hc78) ?_
    refine W.skip ?_
    exact Jk65 x55 x54 cs56 _ _ hl57 h49_3 h49_7 h49_8 rfl rfl h49_13 h49_14 h49_15 ((hs.mask [true, true, true]).pick [1, 0, 2]) hf } }
  refine W.region ?_
  refine WL.move (v := bstr x44) rfl ?_
  refine WL.binS (v := .bool (x44 == ([] : List UInt8))) rfl rfl (sb_eql _ _) ?_
  refine WL.move (v := .bool (x44 == ([] : List UInt8))) rfl ?_
  rcases iteE hf with ⟨hc83, hf⟩ | ⟨hc83, hf⟩
  {
  refine WL.pass ((wanted_of rfl rfl (bool_tr rfl hc83)).trans rfl) rfl ?_
  refine WL.pass ((wanted_of rfl rfl (bool_tr rfl hc83)).trans rfl) rfl ?_
  refine WL.pass ((wanted_of rfl rfl (bool_tr rfl hc83)).trans rfl) rfl ?_
  refine WL.pickT (v := .bool true) (bool_tr rfl hc83) rfl ?_
  refine WL.nil ?_
  exact Jk51 true _ _ h25_3 h25_7 rfl rfl h25_13 h25_14 h25_15 rfl ((hs.mask [true, true]).pick [2, 3]) hf }
  {
  refine WL.move (v := bstr x44) rfl ?_ (hg := (wanted_of rfl rfl (bool_tr rfl hc83)).trans rfl)
  obtain ⟨x84, hxx84, hf⟩ := bindE hf
  refine WL.indexS UN9 rfl rfl hxx84 ?_ (hg := (wanted_of rfl rfl (bool_tr rfl hc83)).trans rfl)
  refine WL.bin (v := .bool ((x84.toNat : Int) == 35)) rfl rfl (ib_eql _ _ _) ?_ (hg := (wanted_of rfl rfl (bool_tr rfl hc83)).trans rfl)
  refine WL.pickF (v := .bool ((x84.toNat : Int) == 35)) (bool_tr rfl hc83) rfl ?_
  refine WL.nil ?_
  exact Jk51 ((x84.toNat : Int) == 35) _ _ h25_3 h25_7 rfl rfl h25_13 h25_14 h25_15 rfl ((hs.mask [true, true]).pick [2, 3]) hf } }
  {
  refine W.cond_false (bool_tr rfl hc34) ?_
  refine W.exit ?_
  have hr := Option.some.inj hf; subst hr
  have hr := hbbs31 _ rfl; subst hr
  have hf := hfs31
  exact Jk15 x26 a27 c28 n29 _ _ h25_7 ((hs.mask [true]).pick []) hf }
theorem command_Compile.callc {ok : Nat → Prop} {w0 : World} {x1 : List UInt8} {x2 : api_Summary} {v3 : Value} {r : (List api_Change) × Int × Int} (hf : command_Compile x1 x2 = some r) (i0 : (vl t_api_Summary x2 v3).holds ok w0) :
    Calls Tryd.prog 14 #[bstr x1, v3] w0 fun e w' => ∃ v, e = .returned v ∧ ∃ y : (Option Addr × Nat), v = .tuple #[.slice y.1 (r.1).length y.2, .int .i64 r.2.1, .int .i64 r.2.2] ∧ St ok (bz w0) w' [vl (tSlice t_api_Change) r.1 (.slice y.1 (r.1).length y.2)] [] := by
  refine (command_Compile.calls (ok := ok) (w0 := w0) (x1 := x1) (x2 := x2) hf i0).mono ?_
  rintro e w' ⟨v, rfl, ⟨a89, n90, c91⟩, rfl, hs⟩
  obtain rfl := hs.ownLen 0 rfl
  have hs := hs.freezeOwn 0 rfl
  exact ⟨_, rfl, (a89, c91), rfl, hs.pick [0]⟩
/-! elasticstore/command.Format: function 11 -/
theorem command_Format.calls {ok : Nat → Prop} {w0 : World} {x1 : api_Change} {v2 : Value} {r : List UInt8} (hf : command_Format x1 = some r) (i0 : (vl t_api_Change x1 v2).holds ok w0) :
    Calls Tryd.prog 11 #[v2] w0 fun e w' => ∃ v, e = .returned v ∧ ∃ y : Unit, v = bstr r ∧ St ok (bz w0) w' [] [] := by
  unfold command_Format at hf
  refine calls_of_W (fn := Tryd.f11) (N := 54) Tryd.func11 rfl Tryd.ntmps11 rfl ?_
  have hs : St ok (bz w0) w0 [vl t_api_Change x1 v2] [] := St.init (All.cons i0 All.nil)
  clear i0
  obtain ⟨cs3, hl4, rfl⟩ := hs.aggv (n := 7) 0 rfl rfl rfl
  refine W.seqK fun K5 hK5 => ?_
  refine W.region ?_
  refine WL.box (vs := cs3) hs rfl rfl (fun g6 w hs => ?_)
  refine WL.assign (v := bstr ([] : List UInt8)) rfl ?_
  refine WL.nil ?_
  refine hK5 _ _ ?_
  refine W.seqK fun K7 hK7 => ?_
  refine W.seqK fun K8 hK8 => ?_
  refine W.region ?_
  refine WL.loadAll hs 0 rfl TI26 rfl hl4 ?_
  obtain ⟨x9, hxx9, hf⟩ := bindE hf
  refine WL.call (vs := [.agg cs3.toArray]) hs FN26 ⟨rfl, trivial⟩ (fun ok hA => command_versioned.calls (x1 := x1) hxx9 (hA.get 0 rfl)) ?_
  rintro cs10 w hs
  have hl11 := hs.agglen (n := 7) 0 rfl rfl rfl
  obtain ⟨x12, hxx12, hf⟩ := bindE hf
  refine WL.call (vs := [.agg cs10.toArray]) hs FN25 ⟨rfl, trivial⟩ (fun ok hA => proposal_ValidateChange.calls (x1 := x9) hxx12 (hA.get 0 rfl)) ?_
  rintro _ w hs
  refine WL.bin (v := .bool (x12 != 0)) rfl rfl (ib_neq _ _ _) ?_
  refine WL.nil ?_
  refine hK8 _ _ ?_
  rcases iteE hf with ⟨hc13, hf⟩ | ⟨hc13, hf⟩
  {
  refine W.cond_true (bool_tr rfl hc13) ?_
  refine W.seqK fun K14 hK14 => ?_
  refine W.region ?_
  refine WL.assign (v := bstr ([] : List UInt8)) rfl ?_
  refine WL.nil ?_
  refine hK14 _ _ ?_
  refine W.ret ?_
  have hr := Option.some.inj hf; subst hr
  exact ⟨_, resOk_one rfl rfl, (), rfl, (hs.mask []).pick []⟩ }
  {
  refine W.cond_false (bool_tr rfl hc13) ?_
  refine W.skip ?_
  refine hK7 _ _ ?_
  refine W.seqK fun K15 hK15 => ?_
  obtain ⟨x17, hxx17, hf⟩ := bindE hf
  obtain ⟨x19, hxx19, hf⟩ := bindE hf
  refine W.any (by kernel_rfl) 6 2 [true, true, true, true, true, true, false, false] rfl rfl (poAt [pv (.pointer (some ⟨g6, 1, none⟩)), pv (.int .i64 x1.Server), pv (bstr x17), pv (.pointer (some ⟨g6, 2, none⟩)), pv (.int .i64 x1.Weight), pv (bstr x19)]) (Λ := [blk g6 26 cs3]) hs (by kernel_rfl) (by kernel_rfl) (by kernel_rfl) ⟨⟨⟨⟨⟨⟨trivial, ?_⟩, ?_⟩, ?_⟩, ?_⟩, ?_⟩, ?_⟩ ?_
  {
  intro ρ w Γx Λx hs hu hp
  refine WL.fieldAddr (m := 1) (hu 1 rfl) FA26_1 rfl ?_
  exact WL.nil ⟨rfl, _, rfl, rfl, hs.cutG 0 0⟩ }
  {
  intro ρ w Γx Λx hs hu hp
  have e20 : ρ 9 = .pointer (some ⟨g6, 1, none⟩) := (hp 0 rfl).1
  refine WL.loadF (z := x1.Server) F_api_Change_Server hs (Λx.length + 0) (getApp rfl) (Γx.length + 1) (getApp rfl) rfl TI3 (.inr rfl) e20 rfl (fun v16 hs => ?_)
  obtain rfl := hs.int 0 rfl
  exact WL.nil ⟨rfl, _, rfl, rfl, hs.cutG 0 1⟩ }
  {
  intro ρ w Γx Λx hs hu hp
  have e21 : ρ 10 = .int .i64 x1.Server := (hp 1 rfl).1
  refine WL.call (vs := [.int .i64 x1.Server]) hs FN30 ⟨e21, trivial⟩ (fun ok hA => strconv_Itoa.calls (x1 := x1.Server) hxx17) ?_
  rintro _ w hs
  exact WL.nil ⟨rfl, _, rfl, rfl, hs.cutG 0 0⟩ }
  {
  intro ρ w Γx Λx hs hu hp
  refine WL.fieldAddr (m := 2) (hu 1 rfl) FA26_2 rfl ?_
  exact WL.nil ⟨rfl, _, rfl, rfl, hs.cutG 0 0⟩ }
  {
  intro ρ w Γx Λx hs hu hp
  have e22 : ρ 12 = .pointer (some ⟨g6, 2, none⟩) := (hp 3 rfl).1
  refine WL.loadF (z := x1.Weight) F_api_Change_Weight hs (Λx.length + 0) (getApp rfl) (Γx.length + 1) (getApp rfl) rfl TI3 (.inr rfl) e22 rfl (fun v18 hs => ?_)
  obtain rfl := hs.int 0 rfl
  exact WL.nil ⟨rfl, _, rfl, rfl, hs.cutG 0 1⟩ }
  {
  intro ρ w Γx Λx hs hu hp
  have e23 : ρ 13 = .int .i64 x1.Weight := (hp 4 rfl).1
  refine WL.call (vs := [.int .i64 x1.Weight]) hs FN30 ⟨e23, trivial⟩ (fun ok hA => strconv_Itoa.calls (x1 := x1.Weight) hxx19) ?_
  rintro _ w hs
  exact WL.nil ⟨rfl, _, rfl, rfl, hs.cutG 0 0⟩ }
  {
  intro ρ w hs hu24 hp
  obtain ⟨⟨⟨⟨⟨⟨_, hp0_⟩, hp1_⟩, hp2_⟩, hp3_⟩, hp4_⟩, hp5_⟩ := hp
  have hs : St ok (bz w0) w [vl t_api_Change x9 (.agg cs10.toArray), vl t_api_Change x1 (.agg cs3.toArray)] [blk g6 26 cs3] := hs
  have e25 : ρ 14 = bstr x19 := hp5_
  have e26 : ρ 13 = .int .i64 x1.Weight := hp4_
  have e27 : ρ 12 = .pointer (some ⟨g6, 2, none⟩) := hp3_
  have e28 : ρ 11 = bstr x17 := hp2_
  have e29 : ρ 10 = .int .i64 x1.Server := hp1_
  have e30 : ρ 9 = .pointer (some ⟨g6, 1, none⟩) := hp0_
  refine WA.step [6] (by kernel_rfl) (by simp) ⟨?_, trivial⟩
  refine WL.assign (v := bstr x17) e28 ?_
  refine WL.nil ⟨rfl, _, rfl, ?_⟩
  refine WA.step [7] (by kernel_rfl) (by simp) ⟨?_, trivial⟩
  refine WL.assign (v := bstr x19) e25 ?_
  refine WL.nil ⟨rfl, _, rfl, ?_⟩
  refine WA.done (by kernel_rfl) ?_
  refine hK15 _ _ ?_
  refine W.seqK fun K31 hK31 => ?_
  refine W.seqK fun K32 hK32 => ?_
  refine W.region ?_
  refine WL.fieldAddr (m := 0) (hu24 1 rfl) FA26_0 rfl ?_
  refine WL.loadF (z := x1.Kind) F_api_Change_Kind hs 0 rfl 1 rfl rfl TI3 (.inr rfl) rfl rfl (fun v33 hs => ?_)
  obtain rfl := hs.int 0 rfl
  refine WL.nil ?_
  refine hK32 _ _ ?_
  refine W.block ?_
  refine W.seqK fun K34 hK34 => ?_
  refine W.region ?_
  refine WL.bin (v := .bool (x1.Kind == 1)) rfl rfl (ib_eql _ _ _) ?_
  refine WL.assign (v := .bool (x1.Kind == 1)) rfl ?_
  refine WL.nil ?_
  refine hK34 _ _ ?_
  rcases iteE hf with ⟨hc35, hf⟩ | ⟨hc35, hf⟩
  {
  refine W.cond_true (bool_tr rfl hc35) ?_
  refine W.seqK fun K36 hK36 => ?_
  refine W.region ?_
  refine WL.move (v := bstr x17) rfl ?_
  obtain ⟨x37, hxx37, hf⟩ := bindE hf
  refine WL.binS (v := bstr x37) rfl rfl (sb_cat hxx37) ?_
  obtain ⟨x38, hxx38, hf⟩ := bindE hf
  refine WL.binS (v := bstr x38) rfl rfl (sb_cat hxx38) ?_
  refine WL.move (v := bstr x19) rfl ?_
  obtain ⟨x39, hxx39, hf⟩ := bindE hf
  refine WL.binS (v := bstr x39) rfl rfl (sb_cat hxx39) ?_
  refine WL.assign (v := bstr x39) rfl ?_
  refine WL.nil ?_
  refine hK36 _ _ ?_
  refine W.ret ?_
  have hr := Option.some.inj hf; subst hr
  exact ⟨_, resOk_one rfl rfl, (), rfl, (hs.mask []).pick []⟩ }
  {
  refine W.cond_false (bool_tr rfl hc35) ?_
  refine W.seqK fun K40 hK40 => ?_
  refine W.region ?_
  refine WL.bin (v := .bool (x1.Kind == 2)) rfl rfl (ib_eql _ _ _) ?_
  refine WL.assign (v := .bool (x1.Kind == 2)) rfl ?_
  refine WL.nil ?_
  refine hK40 _ _ ?_
  rcases iteE hf with ⟨hc41, hf⟩ | ⟨hc41, hf⟩
  {
  refine W.cond_true (bool_tr rfl hc41) ?_
  refine W.seqK fun K42 hK42 => ?_
  refine W.region ?_
  refine WL.move (v := bstr x17) rfl ?_
  obtain ⟨x43, hxx43, hf⟩ := bindE hf
  refine WL.binS (v := bstr x43) rfl rfl (sb_cat hxx43) ?_
  refine WL.assign (v := bstr x43) rfl ?_
  refine WL.nil ?_
  refine hK42 _ _ ?_
  refine W.ret ?_
  have hr := Option.some.inj hf; subst hr
  exact ⟨_, resOk_one rfl rfl, (), rfl, (hs.mask []).pick []⟩ }
  {
  refine W.cond_false (bool_tr rfl hc41) ?_
  refine W.seqK fun K44 hK44 => ?_
  refine W.region ?_
  refine WL.bin (v := .bool (x1.Kind == 3)) rfl rfl (ib_eql _ _ _) ?_
  refine WL.assign (v := .bool (x1.Kind == 3)) rfl ?_
  refine WL.nil ?_
  refine hK44 _ _ ?_
  rcases iteE hf with ⟨hc45, hf⟩ | ⟨hc45, hf⟩
  {
  refine W.cond_true (bool_tr rfl hc45) ?_
  refine W.seqK fun K46 hK46 => ?_
  refine W.region ?_
  refine WL.move (v := bstr x17) rfl ?_
  obtain ⟨x47, hxx47, hf⟩ := bindE hf
  refine WL.binS (v := bstr x47) rfl rfl (sb_cat hxx47) ?_
  obtain ⟨x48, hxx48, hf⟩ := bindE hf
  refine WL.binS (v := bstr x48) rfl rfl (sb_cat hxx48) ?_
  refine WL.move (v := bstr x19) rfl ?_
  obtain ⟨x49, hxx49, hf⟩ := bindE hf
  refine WL.binS (v := bstr x49) rfl rfl (sb_cat hxx49) ?_
  refine WL.assign (v := bstr x49) rfl ?_
  refine WL.nil ?_
  refine hK46 _ _ ?_
  refine W.ret ?_
  have hr := Option.some.inj hf; subst hr
  exact ⟨_, resOk_one rfl rfl, (), rfl, (hs.mask []).pick []⟩ }
  {
  refine W.cond_false (bool_tr rfl hc45) ?_
  refine W.skip ?_
  refine hK31 _ _ ?_
  refine W.seqK fun K50 hK50 => ?_
  refine W.seqK fun K51 hK51 => ?_
  refine W.region ?_
  refine WL.fieldAddr (m := 4) (hu24 1 rfl) FA26_4 rfl ?_
  refine WL.fieldAddr (m := 4) rfl FA24_0 rfl ?_
  refine WL.loadF (z := x1.Rule.Kind) (F_api_Change_Rule.comp F_api_Rule_Kind) hs 0 rfl 2 rfl rfl TI3 (.inr rfl) rfl rfl (fun v52 hs => ?_)
  obtain rfl := hs.int 0 rfl
  refine WL.nil ?_
  refine hK51 _ _ ?_
  refine W.block ?_
  refine W.seqK fun K53 hK53 => ?_
  refine W.region ?_
  refine WL.bin (v := .bool (x1.Rule.Kind == 1)) rfl rfl (ib_eql _ _ _) ?_
  refine WL.assign (v := .bool (x1.Rule.Kind == 1)) rfl ?_
  refine WL.nil ?_
  refine hK53 _ _ ?_
  rcases iteE hf with ⟨hc54, hf⟩ | ⟨hc54, hf⟩
  {
  refine W.cond_true (bool_tr rfl hc54) ?_
  refine W.seqK fun K55 hK55 => ?_
  refine W.region ?_
  refine WL.assign (v := bstr ([114, 117, 108, 101, 32, 109, 97, 106, 111, 114, 105, 116, 121] : List UInt8)) rfl ?_
  refine WL.nil ?_
  refine hK55 _ _ ?_
  refine W.ret ?_
  have hr := Option.some.inj hf; subst hr
  exact ⟨_, resOk_one rfl rfl, (), rfl, (hs.mask []).pick []⟩ }
  {
  refine W.cond_false (bool_tr rfl hc54) ?_
  refine W.seqK fun K56 hK56 => ?_
  refine W.region ?_
  refine WL.bin (v := .bool (x1.Rule.Kind == 2)) rfl rfl (ib_eql _ _ _) ?_
  refine WL.assign (v := .bool (x1.Rule.Kind == 2)) rfl ?_
  refine WL.nil ?_
  refine hK56 _ _ ?_
  rcases iteE hf with ⟨hc57, hf⟩ | ⟨hc57, hf⟩
  {
  refine W.cond_true (bool_tr rfl hc57) ?_
  refine W.seqK fun K58 hK58 => ?_
  refine W.region ?_
  refine WL.assign (v := bstr ([114, 117, 108, 101, 32, 119, 101, 105, 103, 104, 116, 101, 100] : List UInt8)) rfl ?_
  refine WL.nil ?_
  refine hK58 _ _ ?_
  refine W.ret ?_
  have hr := Option.some.inj hf; subst hr
  exact ⟨_, resOk_one rfl rfl, (), rfl, (hs.mask []).pick []⟩ }
  {
  refine W.cond_false (bool_tr rfl hc57) ?_
  refine W.seqK fun K59 hK59 => ?_
  refine W.region ?_
  refine WL.bin (v := .bool (x1.Rule.Kind == 3)) rfl rfl (ib_eql _ _ _) ?_
  refine WL.assign (v := .bool (x1.Rule.Kind == 3)) rfl ?_
  refine WL.nil ?_
  refine hK59 _ _ ?_
  rcases iteE hf with ⟨hc60, hf⟩ | ⟨hc60, hf⟩
  {
  refine W.cond_true (bool_tr rfl hc60) ?_
  refine W.seqK fun K61 hK61 => ?_
  refine W.region ?_
  refine WL.fieldAddr (m := 4) (hu24 1 rfl) FA26_4 rfl ?_
  refine WL.fieldAddr (m := 5) rfl FA24_1 rfl ?_
  refine WL.loadF (z := x1.Rule.Columns) (F_api_Change_Rule.comp F_api_Rule_Columns) hs 0 rfl 3 rfl rfl TI3 (.inr rfl) rfl rfl (fun v62 hs => ?_)
  obtain rfl := hs.int 0 rfl
  obtain ⟨x63, hxx63, hf⟩ := bindE hf
  refine WL.call (vs := [.int .i64 x1.Rule.Columns]) hs FN30 ⟨rfl, trivial⟩ (fun ok hA => strconv_Itoa.calls (x1 := x1.Rule.Columns) hxx63) ?_
  rintro _ w hs
  obtain ⟨x64, hxx64, hf⟩ := bindE hf
  refine WL.binS (v := bstr x64) rfl rfl (sb_cat hxx64) ?_
  refine WL.assign (v := bstr x64) rfl ?_
  refine WL.nil ?_
  refine hK61 _ _ ?_
  refine W.ret ?_
  have hr := Option.some.inj hf; subst hr
  exact ⟨_, resOk_one rfl rfl, (), rfl, (hs.mask []).pick []⟩ }
  {
  refine W.cond_false (bool_tr rfl hc60) ?_
  refine W.skip ?_
  refine hK50 _ _ ?_
  refine W.seqK fun K65 hK65 => ?_
  refine W.region ?_
  refine WL.fieldAddr (m := 4) (hu24 1 rfl) FA26_4 rfl ?_
  refine WL.fieldAddr (m := 6) rfl FA24_2 rfl ?_
  refine WL.loadF (z := x1.Rule.Faulty) (F_api_Change_Rule.comp F_api_Rule_Faulty) hs 0 rfl 3 rfl rfl TI3 (.inr rfl) rfl rfl (fun v66 hs => ?_)
  obtain rfl := hs.int 0 rfl
  obtain ⟨x67, hxx67, hf⟩ := bindE hf
  refine WL.call (vs := [.int .i64 x1.Rule.Faulty]) hs FN30 ⟨rfl, trivial⟩ (fun ok hA => strconv_Itoa.calls (x1 := x1.Rule.Faulty) hxx67) ?_
  rintro _ w hs
  obtain ⟨x68, hxx68, hf⟩ := bindE hf
  refine WL.binS (v := bstr x68) rfl rfl (sb_cat hxx68) ?_
  refine WL.assign (v := bstr x68) rfl ?_
  refine WL.nil ?_
  refine hK65 _ _ ?_
  refine W.ret ?_
  have hr := Option.some.inj hf; subst hr
  exact ⟨_, resOk_one rfl rfl, (), rfl, (hs.mask []).pick []⟩ } } } } } } } }
/-! elasticstore/elasticstorelaw08.awake: function 8 -/
theorem eslaw08_awake.calls {ok : Nat → Prop} {w0 : World}   {r : Bool} (hf : eslaw08_awake = some r)  :
    Calls Tryd.prog 8 #[] w0 fun e w' => ∃ v, e = .returned v ∧ ∃ y : Unit, v = .bool r ∧ St ok (bz w0) w' [] [] := by
  unfold eslaw08_awake at hf
  refine calls_of_W (fn := Tryd.f8) (N := 72) Tryd.func8 rfl Tryd.ntmps8 rfl ?_
  have hs : St ok (bz w0) w0 [] [] := St.init All.nil
  refine W.seqK fun K1 hK1 => ?_
  refine W.region ?_
  refine WL.assign (v := .bool false) rfl ?_
  refine WL.nil ?_
  refine hK1 _ _ ?_
  refine W.seqK fun K2 hK2 => ?_
  refine W.region ?_
  obtain ⟨⟨x3, x4⟩, hxx3, hf⟩ := bindE hf
  refine WL.call (vs := [bstr ([106, 111, 105, 110, 32, 52, 32, 119, 101, 105, 103, 104, 116, 32, 50] : List UInt8)]) hs FN9 ⟨rfl, trivial⟩ (fun ok hA => command_Parse.calls (x1 := ([106, 111, 105, 110, 32, 52, 32, 119, 101, 105, 103, 104, 116, 32, 50] : List UInt8)) hxx3) ?_
  rintro cs5 w hs
  have hl6 := hs.agglen (n := 7) 0 rfl rfl rfl
  refine WL.move (v := .tuple #[.agg cs5.toArray, .int .i64 x4]) rfl ?_
  refine WL.extract (v := .agg cs5.toArray) rfl rfl ?_
  refine WL.extract (v := .int .i64 x4) rfl rfl ?_
  refine WL.alloc hs ZV26 (fun g7 w hs => ?_)
  refine WL.storeAll (vs := cs5) hs 0 rfl TI26 rfl rfl rfl hl6 (hs.ones 0 rfl rfl) rfl (fun w hs => ?_)
  refine WL.assign (v := .int .i64 x4) rfl ?_
  refine WL.nil ?_
  refine hK2 _ _ ?_
  refine W.seqK fun K8 hK8 => ?_
  refine W.region ?_
  obtain ⟨⟨x9, x10⟩, hxx9, hf⟩ := bindE hf
  refine WL.call (vs := [bstr ([106, 111, 105, 110, 32, 52, 32, 32, 119, 101, 105, 103, 104, 116, 32, 50] : List UInt8)]) hs FN9 ⟨rfl, trivial⟩ (fun ok hA => command_Parse.calls (x1 := ([106, 111, 105, 110, 32, 52, 32, 32, 119, 101, 105, 103, 104, 116, 32, 50] : List UInt8)) hxx9) ?_
  rintro cs11 w hs
  have hl12 := hs.agglen (n := 7) 0 rfl rfl rfl
  refine WL.move (v := .tuple #[.agg cs11.toArray, .int .i64 x10]) rfl ?_
  refine WL.extract (v := .agg cs11.toArray) rfl rfl ?_
  refine WL.extract (v := .int .i64 x10) rfl rfl ?_
  refine WL.alloc hs ZV26 (fun g13 w hs => ?_)
  refine WL.storeAll (vs := cs11) hs 0 rfl TI26 rfl rfl rfl hl12 (hs.ones 0 rfl rfl) rfl (fun w hs => ?_)
  refine WL.assign (v := .int .i64 x10) rfl ?_
  refine WL.nil ?_
  refine hK8 _ _ ?_
  refine W.seqK fun K14 hK14 => ?_
  refine W.region ?_
  refine WL.build (vs := [(0, .int .i64 1), (1, .int .i64 1)]) (cs := [.int .i64 1, .int .i64 1]) ⟨⟨rfl, rfl⟩, ⟨⟨rfl, rfl⟩, trivial⟩⟩ (bld PL64 rfl) ?_
  refine WL.buildSlice (n := 1) (vs := [(0, .agg ([.int .i64 1, .int .i64 1] : List Value).toArray)]) (cs := [.int .i64 1, .int .i64 1]) hs ⟨⟨rfl, rfl⟩, trivial⟩ (bls PS45 (by decide) rfl) (fun g15 w hs => ?_)
  refine WL.build (vs := [(0, .int .i64 1)]) (cs := [.int .i64 1, .int .i64 0, .int .i64 0]) ⟨⟨rfl, rfl⟩, trivial⟩ (bld PL24 rfl) ?_
  refine WL.build (vs := [(0, .slice (some ⟨g15, 0, none⟩) ([(⟨1, 1⟩ : api_Member)]).length 1), (1, .agg ([.int .i64 1, .int .i64 0, .int .i64 0] : List Value).toArray)]) (cs := [.slice (some ⟨g15, 0, none⟩) ([(⟨1, 1⟩ : api_Member)]).length 1, .int .i64 1, .int .i64 0, .int .i64 0]) ⟨⟨rfl, rfl⟩, ⟨⟨rfl, rfl⟩, trivial⟩⟩ (bld PL47 rfl) ?_
  have hs := hs.ownLit (A := t_api_Member) (xs := [(⟨1, 1⟩ : api_Member)]) 0 rfl (fun ok hA => (Cells.one (T := t_api_Member) (show t_api_Member.R ok _ (⟨1, 1⟩ : api_Member) _ from ⟨[.int .i64 1], [.int .i64 1], rfl, rfl, rfl⟩))) (Nat.le_of_ble_eq_true rfl)
  have hs := hs.freezeOwn 0 rfl
  have hs := hs.add (it := vl t_api_Genesis (⟨[(⟨1, 1⟩ : api_Member)], (⟨1, 0, 0⟩ : api_Rule)⟩ : api_Genesis) (.agg ([.slice (some ⟨g15, 0, none⟩) ([(⟨1, 1⟩ : api_Member)]).length 1, .int .i64 1, .int .i64 0, .int .i64 0]).toArray)) fun ok hA => V_agg (show t_api_Genesis.R ok _ _ _ from ⟨([.slice (some ⟨g15, 0, none⟩) ([(⟨1, 1⟩ : api_Member)]).length 1]), [.int .i64 1, .int .i64 0, .int .i64 0], rfl, (R_one (hA.get 0 rfl)), ⟨[.int .i64 1], [.int .i64 0, .int .i64 0], rfl, rfl, ⟨[.int .i64 0], [.int .i64 0], rfl, rfl, rfl⟩⟩⟩) rfl
  obtain ⟨x16, hxx16, hf⟩ := bindE hf
  refine WL.call (vs := [.agg ([.slice (some ⟨g15, 0, none⟩) ([(⟨1, 1⟩ : api_Member)]).length 1, .int .i64 1, .int .i64 0, .int .i64 0] : List Value).toArray]) hs FN23 ⟨rfl, trivial⟩ (fun ok hA => esref10_Initial.calls (x1 := (⟨[(⟨1, 1⟩ : api_Member)], (⟨1, 0, 0⟩ : api_Rule)⟩ : api_Genesis)) hxx16 (hA.get 0 rfl)) ?_
  rintro ⟨⟨a17, n18, c19⟩, ⟨a20, n21, c22⟩, ⟨a23, n24, c25⟩⟩ w hs
  obtain rfl := hs.ownLen 0 rfl
  have hs := hs.freezeOwn 0 rfl
  obtain rfl := hs.ownLen 0 rfl
  have hs := hs.freezeOwn 0 rfl
  obtain rfl := hs.ownLen 0 rfl
  have hs := hs.freezeOwn 0 rfl
  have hs := hs.add (it := vl t_api_Summary (⟨x16.Joined, x16.Removed, x16.Weights, (⟨x16.Rule.Kind, x16.Rule.Columns, x16.Rule.Faulty⟩ : api_Rule), x16.Version, x16.Admin, x16.Number⟩ : api_Summary) (.agg [.slice a17 (x16.Joined).length c19, .slice a20 (x16.Removed).length c22, .slice a23 (x16.Weights).length c25, .int .i64 x16.Rule.Kind, .int .i64 x16.Rule.Columns, .int .i64 x16.Rule.Faulty, .int .i64 x16.Version, .int .i64 x16.Admin, .int .i64 x16.Number].toArray)) fun ok hA => V_agg (show t_api_Summary.R ok _ _ _ from ⟨[.slice a17 (x16.Joined).length c19], [.slice a20 (x16.Removed).length c22, .slice a23 (x16.Weights).length c25, .int .i64 x16.Rule.Kind, .int .i64 x16.Rule.Columns, .int .i64 x16.Rule.Faulty, .int .i64 x16.Version, .int .i64 x16.Admin, .int .i64 x16.Number], rfl, (R_one (hA.get 2 rfl)), ⟨[.slice a20 (x16.Removed).length c22], [.slice a23 (x16.Weights).length c25, .int .i64 x16.Rule.Kind, .int .i64 x16.Rule.Columns, .int .i64 x16.Rule.Faulty, .int .i64 x16.Version, .int .i64 x16.Admin, .int .i64 x16.Number], rfl, (R_one (hA.get 1 rfl)), ⟨[.slice a23 (x16.Weights).length c25], [.int .i64 x16.Rule.Kind, .int .i64 x16.Rule.Columns, .int .i64 x16.Rule.Faulty, .int .i64 x16.Version, .int .i64 x16.Admin, .int .i64 x16.Number], rfl, (R_one (hA.get 0 rfl)), ⟨[.int .i64 x16.Rule.Kind, .int .i64 x16.Rule.Columns, .int .i64 x16.Rule.Faulty], [.int .i64 x16.Version, .int .i64 x16.Admin, .int .i64 x16.Number], rfl, ⟨[.int .i64 x16.Rule.Kind], [.int .i64 x16.Rule.Columns, .int .i64 x16.Rule.Faulty], rfl, rfl, ⟨[.int .i64 x16.Rule.Columns], [.int .i64 x16.Rule.Faulty], rfl, rfl, rfl⟩⟩, ⟨[.int .i64 x16.Version], [.int .i64 x16.Admin, .int .i64 x16.Number], rfl, rfl, ⟨[.int .i64 x16.Admin], [.int .i64 x16.Number], rfl, rfl, rfl⟩⟩⟩⟩⟩⟩) rfl
  obtain ⟨⟨x26, x27, x28⟩, hxx26, hf⟩ := bindE hf
  refine WL.call (vs := [bstr ([35, 32, 114, 101, 112, 108, 97, 99, 101, 10, 106, 111, 105, 110, 32, 52, 10, 114, 101, 109, 111, 118, 101, 32, 49, 10] : List UInt8), .agg ([.slice a17 (x16.Joined).length c19, .slice a20 (x16.Removed).length c22, .slice a23 (x16.Weights).length c25, .int .i64 x16.Rule.Kind, .int .i64 x16.Rule.Columns, .int .i64 x16.Rule.Faulty, .int .i64 x16.Version, .int .i64 x16.Admin, .int .i64 x16.Number] : List Value).toArray]) hs FN14 ⟨rfl, ⟨rfl, trivial⟩⟩ (fun ok hA => command_Compile.calls (x1 := ([35, 32, 114, 101, 112, 108, 97, 99, 101, 10, 106, 111, 105, 110, 32, 52, 10, 114, 101, 109, 111, 118, 101, 32, 49, 10] : List UInt8)) (x2 := (⟨x16.Joined, x16.Removed, x16.Weights, (⟨x16.Rule.Kind, x16.Rule.Columns, x16.Rule.Faulty⟩ : api_Rule), x16.Version, x16.Admin, x16.Number⟩ : api_Summary)) hxx26 (hA.get 0 rfl)) ?_
  rintro ⟨a29, n30, c31⟩ w hs
  refine WL.move (v := .tuple #[.slice a29 n30 c31, .int .i64 x27, .int .i64 x28]) rfl ?_
  refine WL.extract (v := .slice a29 n30 c31) rfl rfl ?_
  refine WL.extract (v := .int .i64 x27) rfl rfl ?_
  refine WL.extract (v := .int .i64 x28) rfl rfl ?_
  refine WL.assign (v := .slice a29 n30 c31) rfl ?_
  refine WL.assign (v := .int .i64 x27) rfl ?_
  refine WL.assign (v := .int .i64 x28) rfl ?_
  refine WL.nil ?_
  refine hK14 _ _ ?_
  refine W.seqK fun K32 hK32 => ?_
  refine W.region ?_
  refine WL.build (vs := []) (cs := [.slice none 0 0, .slice none 0 0, .slice none 0 0, .int .i64 0, .int .i64 0, .int .i64 0, .int .i64 0, .int .i64 0, .int .i64 0]) trivial (bld PL36 rfl) ?_
  have hs := hs.add (it := vl t_api_Summary (⟨[], [], [], (⟨0, 0, 0⟩ : api_Rule), 0, 0, 0⟩ : api_Summary) (.agg [.slice none 0 0, .slice none 0 0, .slice none 0 0, .int .i64 0, .int .i64 0, .int .i64 0, .int .i64 0, .int .i64 0, .int .i64 0].toArray)) fun ok hA => V_agg (show t_api_Summary.R ok _ _ _ from ⟨[.slice none 0 0], [.slice none 0 0, .slice none 0 0, .int .i64 0, .int .i64 0, .int .i64 0, .int .i64 0, .int .i64 0, .int .i64 0], rfl, R_nil, ⟨[.slice none 0 0], [.slice none 0 0, .int .i64 0, .int .i64 0, .int .i64 0, .int .i64 0, .int .i64 0, .int .i64 0], rfl, R_nil, ⟨[.slice none 0 0], [.int .i64 0, .int .i64 0, .int .i64 0, .int .i64 0, .int .i64 0, .int .i64 0], rfl, R_nil, ⟨[.int .i64 0, .int .i64 0, .int .i64 0], [.int .i64 0, .int .i64 0, .int .i64 0], rfl, ⟨[.int .i64 0], [.int .i64 0, .int .i64 0], rfl, rfl, ⟨[.int .i64 0], [.int .i64 0], rfl, rfl, rfl⟩⟩, ⟨[.int .i64 0], [.int .i64 0, .int .i64 0], rfl, rfl, ⟨[.int .i64 0], [.int .i64 0], rfl, rfl, rfl⟩⟩⟩⟩⟩⟩) rfl
  obtain ⟨⟨x33, x34, x35⟩, hxx33, hf⟩ := bindE hf
  refine WL.call (vs := [bstr ([10, 114, 101, 109, 111, 118, 101, 32, 57] : List UInt8), .agg ([.slice none 0 0, .slice none 0 0, .slice none 0 0, .int .i64 0, .int .i64 0, .int .i64 0, .int .i64 0, .int .i64 0, .int .i64 0] : List Value).toArray]) hs FN14 ⟨rfl, ⟨rfl, trivial⟩⟩ (fun ok hA => command_Compile.calls (x1 := ([10, 114, 101, 109, 111, 118, 101, 32, 57] : List UInt8)) (x2 := (⟨[], [], [], (⟨0, 0, 0⟩ : api_Rule), 0, 0, 0⟩ : api_Summary)) hxx33 (hA.get 0 rfl)) ?_
  rintro ⟨a36, n37, c38⟩ w hs
  refine WL.move (v := .tuple #[.slice a36 n37 c38, .int .i64 x34, .int .i64 x35]) rfl ?_
  refine WL.extract (v := .slice a36 n37 c38) rfl rfl ?_
  refine WL.extract (v := .int .i64 x34) rfl rfl ?_
  refine WL.extract (v := .int .i64 x35) rfl rfl ?_
  refine WL.assign (v := .slice a36 n37 c38) rfl ?_
  refine WL.assign (v := .int .i64 x34) rfl ?_
  refine WL.assign (v := .int .i64 x35) rfl ?_
  refine WL.nil ?_
  refine hK32 _ _ ?_
  refine W.seqK fun K39 hK39 => ?_
  have Jk42 : ∀ (x41 : Bool) (ρ : Env) (w : World), ρ 0 = .bool x41 → St ok (bz w0) w [] [] → eslaw08_awake.j1 x41 = some r → K39 ρ w := by
    intro x41 ρ w h40_0 hs hf
    refine hK39 _ _ ?_
    unfold eslaw08_awake.j1 at hf
    refine W.ret ?_
    have hr := Option.some.inj hf; subst hr
    exact ⟨_, resOk_one rfl h40_0, (), rfl, (hs.mask []).pick []⟩
  refine W.region ?_
  refine WL.loadAll hs 3 rfl TI26 rfl hl6 ?_
  refine WL.build (vs := [(0, .int .i64 1), (1, .int .i64 4), (2, .int .i64 2)]) (cs := [.int .i64 1, .int .i64 4, .int .i64 2, .int .i64 0, .int .i64 0, .int .i64 0, .int .i64 0]) ⟨⟨rfl, rfl⟩, ⟨⟨rfl, rfl⟩, ⟨⟨rfl, rfl⟩, trivial⟩⟩⟩ (bld PL26 rfl) ?_
  obtain rfl := open_api_Change hs 8 rfl
  refine WL.eqA rfl rfl EG26 (EQ26 (⟨x3.Kind, x3.Server, x3.Weight, x3.Version, (⟨x3.Rule.Kind, x3.Rule.Columns, x3.Rule.Faulty⟩ : api_Rule)⟩ : api_Change) (⟨1, 4, 2, 0, (⟨0, 0, 0⟩ : api_Rule)⟩ : api_Change)) ?_
  refine WL.move (v := .bool (decide ((⟨x3.Kind, x3.Server, x3.Weight, x3.Version, (⟨x3.Rule.Kind, x3.Rule.Columns, x3.Rule.Faulty⟩ : api_Rule)⟩ : api_Change) = (⟨1, 4, 2, 0, (⟨0, 0, 0⟩ : api_Rule)⟩ : api_Change)))) rfl ?_
  rcases iteE hf with ⟨hc43, hf⟩ | ⟨hc43, hf⟩
  {
  refine WL.move (v := .int .i64 x4) rfl ?_ (hg := (wanted_of rfl rfl (bool_tr rfl hc43)).trans rfl)
  refine WL.bin (v := .bool (x4 == 0)) rfl rfl (ib_eql _ _ _) ?_ (hg := (wanted_of rfl rfl (bool_tr rfl hc43)).trans rfl)
  refine WL.pickT (v := .bool (x4 == 0)) (bool_tr rfl hc43) rfl ?_
  refine WL.move (v := .bool (x4 == 0)) rfl ?_
  rcases iteE hf with ⟨hc44, hf⟩ | ⟨hc44, hf⟩
  {
  refine WL.move (v := .int .i64 x10) rfl ?_ (hg := (wanted_of rfl rfl (bool_tr rfl hc44)).trans rfl)
  refine WL.bin (v := .bool (x10 == 11)) rfl rfl (ib_eql _ _ _) ?_ (hg := (wanted_of rfl rfl (bool_tr rfl hc44)).trans rfl)
  refine WL.pickT (v := .bool (x10 == 11)) (bool_tr rfl hc44) rfl ?_
  refine WL.move (v := .bool (x10 == 11)) rfl ?_
  rcases iteE hf with ⟨hc45, hf⟩ | ⟨hc45, hf⟩
  {
  refine WL.loadN (vs := [.int .i64 x3.Kind, .int .i64 x3.Server, .int .i64 x3.Weight, .int .i64 x3.Version, .int .i64 x3.Rule.Kind, .int .i64 x3.Rule.Columns, .int .i64 x3.Rule.Faulty]) hs 3 rfl TI26 rfl rfl rfl ?_ (hg := (wanted_of rfl rfl (bool_tr rfl hc45)).trans rfl)
  have hs := hs.add (it := vl t_api_Change (⟨x3.Kind, x3.Server, x3.Weight, x3.Version, (⟨x3.Rule.Kind, x3.Rule.Columns, x3.Rule.Faulty⟩ : api_Rule)⟩ : api_Change) (.agg [.int .i64 x3.Kind, .int .i64 x3.Server, .int .i64 x3.Weight, .int .i64 x3.Version, .int .i64 x3.Rule.Kind, .int .i64 x3.Rule.Columns, .int .i64 x3.Rule.Faulty].toArray)) fun ok hA => V_agg (show t_api_Change.R ok _ _ _ from ⟨[.int .i64 x3.Kind], [.int .i64 x3.Server, .int .i64 x3.Weight, .int .i64 x3.Version, .int .i64 x3.Rule.Kind, .int .i64 x3.Rule.Columns, .int .i64 x3.Rule.Faulty], rfl, rfl, ⟨[.int .i64 x3.Server], [.int .i64 x3.Weight, .int .i64 x3.Version, .int .i64 x3.Rule.Kind, .int .i64 x3.Rule.Columns, .int .i64 x3.Rule.Faulty], rfl, rfl, ⟨[.int .i64 x3.Weight], [.int .i64 x3.Version, .int .i64 x3.Rule.Kind, .int .i64 x3.Rule.Columns, .int .i64 x3.Rule.Faulty], rfl, rfl, ⟨[.int .i64 x3.Version], [.int .i64 x3.Rule.Kind, .int .i64 x3.Rule.Columns, .int .i64 x3.Rule.Faulty], rfl, rfl, ⟨[.int .i64 x3.Rule.Kind], [.int .i64 x3.Rule.Columns, .int .i64 x3.Rule.Faulty], rfl, rfl, ⟨[.int .i64 x3.Rule.Columns], [.int .i64 x3.Rule.Faulty], rfl, rfl, rfl⟩⟩⟩⟩⟩⟩) rfl
  obtain ⟨x46, hxx46, hf⟩ := bindE hf
  refine WL.call (vs := [.agg ([.int .i64 x3.Kind, .int .i64 x3.Server, .int .i64 x3.Weight, .int .i64 x3.Version, .int .i64 x3.Rule.Kind, .int .i64 x3.Rule.Columns, .int .i64 x3.Rule.Faulty] : List Value).toArray]) hs FN11 ⟨rfl, trivial⟩ (fun ok hA => command_Format.calls (x1 := (⟨x3.Kind, x3.Server, x3.Weight, x3.Version, (⟨x3.Rule.Kind, x3.Rule.Columns, x3.Rule.Faulty⟩ : api_Rule)⟩ : api_Change)) hxx46 (hA.get 0 rfl)) ?_ (hg := (wanted_of rfl rfl (bool_tr rfl hc45)).trans rfl)
  rintro _ w hs
  refine WL.binS (v := .bool (x46 == ([106, 111, 105, 110, 32, 52, 32, 119, 101, 105, 103, 104, 116, 32, 50] : List UInt8))) rfl rfl (sb_eql _ _) ?_ (hg := (wanted_of rfl rfl (bool_tr rfl hc45)).trans rfl)
  refine WL.pickT (v := .bool (x46 == ([106, 111, 105, 110, 32, 52, 32, 119, 101, 105, 103, 104, 116, 32, 50] : List UInt8))) (bool_tr rfl hc45) rfl ?_
  refine WL.move (v := .bool (x46 == ([106, 111, 105, 110, 32, 52, 32, 119, 101, 105, 103, 104, 116, 32, 50] : List UInt8))) rfl ?_
  rcases iteE hf with ⟨hc47, hf⟩ | ⟨hc47, hf⟩
  {
  refine WL.move (v := .slice a29 n30 c31) rfl ?_ (hg := (wanted_of rfl rfl (bool_tr rfl hc47)).trans rfl)
  refine WL.len (v := .slice a29 n30 c31) rfl (len_own hs 1 rfl UN38) ?_ (hg := (wanted_of rfl rfl (bool_tr rfl hc47)).trans rfl)
  refine WL.bin (v := .bool ((x26.length : Int) == 2)) rfl rfl (ib_eql _ _ _) ?_ (hg := (wanted_of rfl rfl (bool_tr rfl hc47)).trans rfl)
  refine WL.pickT (v := .bool ((x26.length : Int) == 2)) (bool_tr rfl hc47) rfl ?_
  refine WL.move (v := .bool ((x26.length : Int) == 2)) rfl ?_
  rcases iteE hf with ⟨hc48, hf⟩ | ⟨hc48, hf⟩
  {
  refine WL.move (v := .int .i64 x27) rfl ?_ (hg := (wanted_of rfl rfl (bool_tr rfl hc48)).trans rfl)
  refine WL.bin (v := .bool (x27 == 0)) rfl rfl (ib_eql _ _ _) ?_ (hg := (wanted_of rfl rfl (bool_tr rfl hc48)).trans rfl)
  refine WL.pickT (v := .bool (x27 == 0)) (bool_tr rfl hc48) rfl ?_
  refine WL.move (v := .bool (x27 == 0)) rfl ?_
  rcases iteE hf with ⟨hc49, hf⟩ | ⟨hc49, hf⟩
  {
  refine WL.move (v := .int .i64 x28) rfl ?_ (hg := (wanted_of rfl rfl (bool_tr rfl hc49)).trans rfl)
  refine WL.bin (v := .bool (x28 == 0)) rfl rfl (ib_eql _ _ _) ?_ (hg := (wanted_of rfl rfl (bool_tr rfl hc49)).trans rfl)
  refine WL.pickT (v := .bool (x28 == 0)) (bool_tr rfl hc49) rfl ?_
  refine WL.move (v := .bool (x28 == 0)) rfl ?_
  rcases iteE hf with ⟨hc50, hf⟩ | ⟨hc50, hf⟩
  {
  refine WL.move (v := .int .i64 x34) rfl ?_ (hg := (wanted_of rfl rfl (bool_tr rfl hc50)).trans rfl)
  refine WL.bin (v := .bool (x34 == 2)) rfl rfl (ib_eql _ _ _) ?_ (hg := (wanted_of rfl rfl (bool_tr rfl hc50)).trans rfl)
  refine WL.pickT (v := .bool (x34 == 2)) (bool_tr rfl hc50) rfl ?_
  refine WL.move (v := .bool (x34 == 2)) rfl ?_
  rcases iteE hf with ⟨hc51, hf⟩ | ⟨hc51, hf⟩
  {
  refine WL.move (v := .int .i64 x35) rfl ?_ (hg := (wanted_of rfl rfl (bool_tr rfl hc51)).trans rfl)
  refine WL.bin (v := .bool (x35 == 6)) rfl rfl (ib_eql _ _ _) ?_ (hg := (wanted_of rfl rfl (bool_tr rfl hc51)).trans rfl)
  refine WL.pickT (v := .bool (x35 == 6)) (bool_tr rfl hc51) rfl ?_
  refine WL.assign (v := .bool (x35 == 6)) rfl ?_
  refine WL.nil ?_
  exact Jk42 (x35 == 6) _ _ rfl ((hs.mask []).pick []) hf }
  {
  refine WL.pass ((wanted_of rfl rfl (bool_tr rfl hc51)).trans rfl) rfl ?_
  refine WL.pass ((wanted_of rfl rfl (bool_tr rfl hc51)).trans rfl) rfl ?_
  refine WL.pickF (v := .bool false) (bool_tr rfl hc51) rfl ?_
  refine WL.assign (v := .bool false) rfl ?_
  refine WL.nil ?_
  exact Jk42 false _ _ rfl ((hs.mask []).pick []) hf } }
  {
  refine WL.pass ((wanted_of rfl rfl (bool_tr rfl hc50)).trans rfl) rfl ?_
  refine WL.pass ((wanted_of rfl rfl (bool_tr rfl hc50)).trans rfl) rfl ?_
  refine WL.pickF (v := .bool false) (bool_tr rfl hc50) rfl ?_
  refine WL.move (v := .bool false) rfl ?_
  refine WL.pass ((wanted_of rfl rfl rfl).trans rfl) rfl ?_
  refine WL.pass ((wanted_of rfl rfl rfl).trans rfl) rfl ?_
  refine WL.pickF (v := .bool false) rfl rfl ?_
  refine WL.assign (v := .bool false) rfl ?_
  refine WL.nil ?_
  exact Jk42 false _ _ rfl ((hs.mask []).pick []) hf } }
  {
  refine WL.pass ((wanted_of rfl rfl (bool_tr rfl hc49)).trans rfl) rfl ?_
  refine WL.pass ((wanted_of rfl rfl (bool_tr rfl hc49)).trans rfl) rfl ?_
  refine WL.pickF (v := .bool false) (bool_tr rfl hc49) rfl ?_
  refine WL.move (v := .bool false) rfl ?_
  refine WL.pass ((wanted_of rfl rfl rfl).trans rfl) rfl ?_
  refine WL.pass ((wanted_of rfl rfl rfl).trans rfl) rfl ?_
  refine WL.pickF (v := .bool false) rfl rfl ?_
  refine WL.move (v := .bool false) rfl ?_
  refine WL.pass ((wanted_of rfl rfl rfl).trans rfl) rfl ?_
  refine WL.pass ((wanted_of rfl rfl rfl).trans rfl) rfl ?_
  refine WL.pickF (v := .bool false) rfl rfl ?_
  refine WL.assign (v := .bool false) rfl ?_
  refine WL.nil ?_
  exact Jk42 false _ _ rfl ((hs.mask []).pick []) hf } }
  {
  refine WL.pass ((wanted_of rfl rfl (bool_tr rfl hc48)).trans rfl) rfl ?_
  refine WL.pass ((wanted_of rfl rfl (bool_tr rfl hc48)).trans rfl) rfl ?_
  refine WL.pickF (v := .bool false) (bool_tr rfl hc48) rfl ?_
  refine WL.move (v := .bool false) rfl ?_
  refine WL.pass ((wanted_of rfl rfl rfl).trans rfl) rfl ?_
  refine WL.pass ((wanted_of rfl rfl rfl).trans rfl) rfl ?_
  refine WL.pickF (v := .bool false) rfl rfl ?_
  refine WL.move (v := .bool false) rfl ?_
  refine WL.pass ((wanted_of rfl rfl rfl).trans rfl) rfl ?_
  refine WL.pass ((wanted_of rfl rfl rfl).trans rfl) rfl ?_
  refine WL.pickF (v := .bool false) rfl rfl ?_
  refine WL.move (v := .bool false) rfl ?_
  refine WL.pass ((wanted_of rfl rfl rfl).trans rfl) rfl ?_
  refine WL.pass ((wanted_of rfl rfl rfl).trans rfl) rfl ?_
  refine WL.pickF (v := .bool false) rfl rfl ?_
  refine WL.assign (v := .bool false) rfl ?_
  refine WL.nil ?_
  exact Jk42 false _ _ rfl ((hs.mask []).pick []) hf } }
  {
  refine WL.pass ((wanted_of rfl rfl (bool_tr rfl hc47)).trans rfl) rfl ?_
  refine WL.pass ((wanted_of rfl rfl (bool_tr rfl hc47)).trans rfl) rfl ?_
  refine WL.pass ((wanted_of rfl rfl (bool_tr rfl hc47)).trans rfl) rfl ?_
  refine WL.pickF (v := .bool false) (bool_tr rfl hc47) rfl ?_
  refine WL.move (v := .bool false) rfl ?_
  refine WL.pass ((wanted_of rfl rfl rfl).trans rfl) rfl ?_
  refine WL.pass ((wanted_of rfl rfl rfl).trans rfl) rfl ?_
  refine WL.pickF (v := .bool false) rfl rfl ?_
  refine WL.move (v := .bool false) rfl ?_
  refine WL.pass ((wanted_of rfl rfl rfl).trans rfl) rfl ?_
  refine WL.pass ((wanted_of rfl rfl rfl).trans rfl) rfl ?_
  refine WL.pickF (v := .bool false) rfl rfl ?_
  refine WL.move (v := .bool false) rfl ?_
  refine WL.pass ((wanted_of rfl rfl rfl).trans rfl) rfl ?_
  refine WL.pass ((wanted_of rfl rfl rfl).trans rfl) rfl ?_
  refine WL.pickF (v := .bool false) rfl rfl ?_
  refine WL.move (v := .bool false) rfl ?_
  refine WL.pass ((wanted_of rfl rfl rfl).trans rfl) rfl ?_
  refine WL.pass ((wanted_of rfl rfl rfl).trans rfl) rfl ?_
  refine WL.pickF (v := .bool false) rfl rfl ?_
  refine WL.assign (v := .bool false) rfl ?_
  refine WL.nil ?_
  exact Jk42 false _ _ rfl ((hs.mask []).pick []) hf } }
  {
  refine WL.pass ((wanted_of rfl rfl (bool_tr rfl hc45)).trans rfl) rfl ?_
  refine WL.pass ((wanted_of rfl rfl (bool_tr rfl hc45)).trans rfl) rfl ?_
  refine WL.pass ((wanted_of rfl rfl (bool_tr rfl hc45)).trans rfl) rfl ?_
  refine WL.pickF (v := .bool false) (bool_tr rfl hc45) rfl ?_
  refine WL.move (v := .bool false) rfl ?_
  refine WL.pass ((wanted_of rfl rfl rfl).trans rfl) rfl ?_
  refine WL.pass ((wanted_of rfl rfl rfl).trans rfl) rfl ?_
  refine WL.pass ((wanted_of rfl rfl rfl).trans rfl) rfl ?_
  refine WL.pickF (v := .bool false) rfl rfl ?_
  refine WL.move (v := .bool false) rfl ?_
  refine WL.pass ((wanted_of rfl rfl rfl).trans rfl) rfl ?_
  refine WL.pass ((wanted_of rfl rfl rfl).trans rfl) rfl ?_
  refine WL.pickF (v := .bool false) rfl rfl ?_
  refine WL.move (v := .bool false) rfl ?_
  refine WL.pass ((wanted_of rfl rfl rfl).trans rfl) rfl ?_
  refine WL.pass ((wanted_of rfl rfl rfl).trans rfl) rfl ?_
  refine WL.pickF (v := .bool false) rfl rfl ?_
  refine WL.move (v := .bool false) rfl ?_
  refine WL.pass ((wanted_of rfl rfl rfl).trans rfl) rfl ?_
  refine WL.pass ((wanted_of rfl rfl rfl).trans rfl) rfl ?_
  refine WL.pickF (v := .bool false) rfl rfl ?_
  refine WL.move (v := .bool false) rfl ?_
  refine WL.pass ((wanted_of rfl rfl rfl).trans rfl) rfl ?_
  refine WL.pass ((wanted_of rfl rfl rfl).trans rfl) rfl ?_
  refine WL.pickF (v := .bool false) rfl rfl ?_
  refine WL.assign (v := .bool false) rfl ?_
  refine WL.nil ?_
  exact Jk42 false _ _ rfl ((hs.mask []).pick []) hf } }
  {
  refine WL.pass ((wanted_of rfl rfl (bool_tr rfl hc44)).trans rfl) rfl ?_
  refine WL.pass ((wanted_of rfl rfl (bool_tr rfl hc44)).trans rfl) rfl ?_
  refine WL.pickF (v := .bool false) (bool_tr rfl hc44) rfl ?_
  refine WL.move (v := .bool false) rfl ?_
  refine WL.pass ((wanted_of rfl rfl rfl).trans rfl) rfl ?_
  refine WL.pass ((wanted_of rfl rfl rfl).trans rfl) rfl ?_
  refine WL.pass ((wanted_of rfl rfl rfl).trans rfl) rfl ?_
  refine WL.pickF (v := .bool false) rfl rfl ?_
  refine WL.move (v := .bool false) rfl ?_
  refine WL.pass ((wanted_of rfl rfl rfl).trans rfl) rfl ?_
  refine WL.pass ((wanted_of rfl rfl rfl).trans rfl) rfl ?_
  refine WL.pass ((wanted_of rfl rfl rfl).trans rfl) rfl ?_
  refine WL.pickF (v := .bool false) rfl rfl ?_
  refine WL.move (v := .bool false) rfl ?_
  refine WL.pass ((wanted_of rfl rfl rfl).trans rfl) rfl ?_
  refine WL.pass ((wanted_of rfl rfl rfl).trans rfl) rfl ?_
  refine WL.pickF (v := .bool false) rfl rfl ?_
  refine WL.move (v := .bool false) rfl ?_
  refine WL.pass ((wanted_of rfl rfl rfl).trans rfl) rfl ?_
  refine WL.pass ((wanted_of rfl rfl rfl).trans rfl) rfl ?_
  refine WL.pickF (v := .bool false) rfl rfl ?_
  refine WL.move (v := .bool false) rfl ?_
  refine WL.pass ((wanted_of rfl rfl rfl).trans rfl) rfl ?_
  refine WL.pass ((wanted_of rfl rfl rfl).trans rfl) rfl ?_
  refine WL.pickF (v := .bool false) rfl rfl ?_
  refine WL.move (v := .bool false) rfl ?_
  refine WL.pass ((wanted_of rfl rfl rfl).trans rfl) rfl ?_
  refine WL.pass ((wanted_of rfl rfl rfl).trans rfl) rfl ?_
  refine WL.pickF (v := .bool false) rfl rfl ?_
  refine WL.assign (v := .bool false) rfl ?_
  refine WL.nil ?_
  exact Jk42 false _ _ rfl ((hs.mask []).pick []) hf } }
  {
  refine WL.pass ((wanted_of rfl rfl (bool_tr rfl hc43)).trans rfl) rfl ?_
  refine WL.pass ((wanted_of rfl rfl (bool_tr rfl hc43)).trans rfl) rfl ?_
  refine WL.pickF (v := .bool false) (bool_tr rfl hc43) rfl ?_
  refine WL.move (v := .bool false) rfl ?_
  refine WL.pass ((wanted_of rfl rfl rfl).trans rfl) rfl ?_
  refine WL.pass ((wanted_of rfl rfl rfl).trans rfl) rfl ?_
  refine WL.pickF (v := .bool false) rfl rfl ?_
  refine WL.move (v := .bool false) rfl ?_
  refine WL.pass ((wanted_of rfl rfl rfl).trans rfl) rfl ?_
  refine WL.pass ((wanted_of rfl rfl rfl).trans rfl) rfl ?_
  refine WL.pass ((wanted_of rfl rfl rfl).trans rfl) rfl ?_
  refine WL.pickF (v := .bool false) rfl rfl ?_
  refine WL.move (v := .bool false) rfl ?_
  refine WL.pass ((wanted_of rfl rfl rfl).trans rfl) rfl ?_
  refine WL.pass ((wanted_of rfl rfl rfl).trans rfl) rfl ?_
  refine WL.pass ((wanted_of rfl rfl rfl).trans rfl) rfl ?_
  refine WL.pickF (v := .bool false) rfl rfl ?_
  refine WL.move (v := .bool false) rfl ?_
  refine WL.pass ((wanted_of rfl rfl rfl).trans rfl) rfl ?_
  refine WL.pass ((wanted_of rfl rfl rfl).trans rfl) rfl ?_
  refine WL.pickF (v := .bool false) rfl rfl ?_
  refine WL.move (v := .bool false) rfl ?_
  refine WL.pass ((wanted_of rfl rfl rfl).trans rfl) rfl ?_
  refine WL.pass ((wanted_of rfl rfl rfl).trans rfl) rfl ?_
  refine WL.pickF (v := .bool false) rfl rfl ?_
  refine WL.move (v := .bool false) rfl ?_
  refine WL.pass ((wanted_of rfl rfl rfl).trans rfl) rfl ?_
  refine WL.pass ((wanted_of rfl rfl rfl).trans rfl) rfl ?_
  refine WL.pickF (v := .bool false) rfl rfl ?_
  refine WL.move (v := .bool false) rfl ?_
  refine WL.pass ((wanted_of rfl rfl rfl).trans rfl) rfl ?_
  refine WL.pass ((wanted_of rfl rfl rfl).trans rfl) rfl ?_
  refine WL.pickF (v := .bool false) rfl rfl ?_
  refine WL.assign (v := .bool false) rfl ?_
  refine WL.nil ?_
  exact Jk42 false _ _ rfl ((hs.mask []).pick []) hf }
/-! elasticstore/elasticstorelaw00.Index: function 62 -/
theorem eslaw00_Index.calls {ok : Nat → Prop} {w0 : World} {x1 : Int} {x2 : Int}  {r : Int} (hf : eslaw00_Index x1 x2 = some r)  :
    Calls Tryd.prog 62 #[.int .i64 x1, .int .i64 x2] w0 fun e w' => ∃ v, e = .returned v ∧ ∃ y : Unit, v = .int .i64 r ∧ St ok (bz w0) w' [] [] := by
  unfold eslaw00_Index at hf
  refine calls_of_W (fn := Tryd.f62) (N := 14) Tryd.func62 rfl Tryd.ntmps62 rfl ?_
  have hs : St ok (bz w0) w0 [] [] := St.init All.nil
  refine W.seqK fun K3 hK3 => ?_
  refine W.region ?_
  refine WL.assign (v := .int .i64 0) rfl ?_
  refine WL.nil ?_
  refine hK3 _ _ ?_
  refine W.seqK fun K4 hK4 => ?_
  refine W.seqK fun K5 hK5 => ?_
  refine W.region ?_
  refine WL.move (v := .int .i64 x2) rfl ?_
  refine WL.bin (v := .bool (decide (x2 < 1))) rfl rfl (ib_lss _ _ _) ?_
  refine WL.nil ?_
  refine hK5 _ _ ?_
  rcases iteE hf with ⟨hc6, hf⟩ | ⟨hc6, hf⟩
  {
  refine W.cond_true (bool_tr rfl hc6) ?_
  refine W.seqK fun K7 hK7 => ?_
  refine W.region ?_
  refine WL.assign (v := .int .i64 0) rfl ?_
  refine WL.nil ?_
  refine hK7 _ _ ?_
  refine W.ret ?_
  have hr := Option.some.inj hf; subst hr
  exact ⟨_, resOk_one rfl rfl, (), rfl, (hs.mask []).pick []⟩ }
  {
  refine W.cond_false (bool_tr rfl hc6) ?_
  refine W.skip ?_
  refine hK4 _ _ ?_
  refine W.seqK fun K8 hK8 => ?_
  refine W.region ?_
  refine WL.move (v := .int .i64 x1) rfl ?_
  refine WL.move (v := .int .i64 x2) rfl ?_
  obtain ⟨hn9, hf⟩ := guardE hf
  refine WL.bin (v := .int .i64 (Int.tmod x1 x2)) rfl rfl (ib_rem _ _ _ hn9) ?_
  refine WL.move (v := .int .i64 x2) rfl ?_
  obtain ⟨x10, ex10, hf⟩ := letE hf
  refine WL.bin (v := .int .i64 x10) rfl rfl (ib_as ex10 (ib_add _ _ _)) ?_
  refine WL.move (v := .int .i64 x2) rfl ?_
  obtain ⟨hn11, hf⟩ := guardE hf
  refine WL.bin (v := .int .i64 (Int.tmod x10 x2)) rfl rfl (ib_rem _ _ _ hn11) ?_
  refine WL.assign (v := .int .i64 (Int.tmod x10 x2)) rfl ?_
  refine WL.nil ?_
  refine hK8 _ _ ?_
  refine W.ret ?_
  have hr := Option.some.inj hf; subst hr
  exact ⟨_, resOk_one rfl rfl, (), rfl, (hs.mask []).pick []⟩ }
/-! elasticstore/elasticstorelaw00.Digit: function 40 -/
theorem eslaw00_Digit.calls {ok : Nat → Prop} {w0 : World} {x1 : Int} {x2 : Int} {x3 : Int}  {r : Int} (hf : eslaw00_Digit x1 x2 x3 = some r)  :
    Calls Tryd.prog 40 #[.int .i64 x1, .int .i64 x2, .int .i64 x3] w0 fun e w' => ∃ v, e = .returned v ∧ ∃ y : Unit, v = .int .i64 r ∧ St ok (bz w0) w' [] [] := by
  unfold eslaw00_Digit at hf
  refine calls_of_W (fn := Tryd.f40) (N := 22) Tryd.func40 rfl Tryd.ntmps40 rfl ?_
  have hs : St ok (bz w0) w0 [] [] := St.init All.nil
  refine W.seqK fun K4 hK4 => ?_
  refine W.region ?_
  refine WL.assign (v := .int .i64 0) rfl ?_
  refine WL.nil ?_
  refine hK4 _ _ ?_
  refine W.seqK fun K5 hK5 => ?_
  refine W.region ?_
  refine WL.move (v := .int .i64 x1) rfl ?_
  obtain ⟨x6, hxx6, hf⟩ := bindE hf
  refine WL.call (vs := [.int .i64 x1, .int .i64 1099511627776]) hs FN62 ⟨rfl, ⟨rfl, trivial⟩⟩ (fun ok hA => eslaw00_Index.calls (x1 := x1) (x2 := 1099511627776) hxx6) ?_
  rintro _ w hs
  refine WL.assign (v := .int .i64 x6) rfl ?_
  refine WL.nil ?_
  refine hK5 _ _ ?_
  refine W.seqK fun K7 hK7 => ?_
  have Jk10 : ∀ (x9 : Int) (ρ : Env) (w : World), ρ 1 = .int .i64 x2 → ρ 7 = .int .i64 x9 → St ok (bz w0) w [] [] → eslaw00_Digit.j1 x2 x9 = some r → K7 ρ w := by
    intro x9 ρ w h8_1 h8_7 hs hf
    refine hK7 _ _ ?_
    unfold eslaw00_Digit.j1 at hf
    refine W.seqK fun K11 hK11 => ?_
    refine W.region ?_
    refine WL.move (v := .int .i64 x9) h8_7 ?_
    refine WL.move (v := .int .i64 x2) h8_1 ?_
    obtain ⟨hn12, hf⟩ := guardE hf
    refine WL.bin (v := .int .i64 (Int.tmod x9 x2)) rfl rfl (ib_rem _ _ _ hn12) ?_
    refine WL.assign (v := .int .i64 (Int.tmod x9 x2)) rfl ?_
    refine WL.nil ?_
    refine hK11 _ _ ?_
    refine W.ret ?_
    have hr := Option.some.inj hf; subst hr
    exact ⟨_, resOk_one rfl rfl, (), rfl, (hs.mask []).pick []⟩
  refine W.seqK fun K13 hK13 => ?_
  refine W.region ?_
  refine WL.assign (v := .int .i64 0) rfl ?_
  refine WL.nil ?_
  refine hK13 _ _ ?_
  refine W.block ?_
  obtain ⟨bs17, hbs17, hfs17⟩ := bindE hf
  refine W.loop hbs17 (fun s ρ w => match s with | (x15, x16) => ρ 1 = .int .i64 x2 ∧ ρ 2 = .int .i64 x3 ∧ ρ 7 = .int .i64 x15 ∧ ρ 8 = .int .i64 x16 ∧ St ok (bz w0) w [] []) ⟨rfl, rfl, rfl, rfl, (hs.mask []).pick []⟩ ?_
  intro s ρ w os17 hI hf hbbs17
  obtain ⟨x15, x16⟩ := s
  obtain ⟨h14_1, h14_2, h14_7, h14_8, hs⟩ := hI
  unfold eslaw00_Digit.l1 at hf
  refine W.seqK fun K18 hK18 => ?_
  refine W.seqK fun K19 hK19 => ?_
  refine W.region ?_
  refine WL.move (v := .int .i64 x16) h14_8 ?_
  refine WL.move (v := .int .i64 x3) h14_2 ?_
  refine WL.bin (v := .bool (decide (x16 < x3))) rfl rfl (ib_lss _ _ _) ?_
  refine WL.nil ?_
  refine hK19 _ _ ?_
  rcases iteE hf with ⟨hc20, hf⟩ | ⟨hc20, hf⟩
  {
  refine W.cond_true (bool_tr rfl hc20) ?_
  refine W.skip ?_
  refine hK18 _ _ ?_
  refine W.seqK fun K21 hK21 => ?_
  refine W.block ?_
  refine W.region ?_
  refine WL.move (v := .int .i64 x15) h14_7 ?_
  refine WL.move (v := .int .i64 x2) h14_1 ?_
  obtain ⟨hn23, hf⟩ := guardE hf
  obtain ⟨x22, ex22, hf⟩ := letE hf
  refine WL.bin (v := .int .i64 x22) rfl rfl (ib_as ex22 (ib_quo _ _ _ hn23)) ?_
  refine WL.assign (v := .int .i64 x22) rfl ?_
  refine WL.nil ?_
  refine hK21 _ _ ?_
  refine W.region ?_
  refine WL.move (v := .int .i64 x16) h14_8 ?_
  obtain ⟨x24, ex24, hf⟩ := letE hf
  refine WL.bin (v := .int .i64 x24) rfl rfl (ib_as ex24 (ib_add _ _ _)) ?_
  refine WL.assign (v := .int .i64 x24) rfl ?_
  refine WL.nil ?_
  exact ⟨_, (Option.some.inj hf).symm, h14_1, h14_2, rfl, rfl, (hs.mask []).pick []⟩ }
  {
  refine W.cond_false (bool_tr rfl hc20) ?_
  refine W.exit ?_
  have hr := Option.some.inj hf; subst hr
  have hr := hbbs17 _ rfl; subst hr
  have hf := hfs17
  exact Jk10 x15 _ _ h14_1 h14_7 ((hs.mask []).pick []) hf }
end Go.Proofs.YthfoljpjhegkmaaDoor
