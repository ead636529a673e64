/- What the row leans on, as few texts. -/
import Derived.Test.YtbbeobiampbddaaQHV2
import Derived.Test.YtbbeobiampbddaaQHV1
import Derived.Test.YtbbeobiampbddaaQHV3
set_option linter.unusedVariables false
set_option linter.unusedSimpArgs false
namespace Go.Proofs.Ytbbeobiampbddaa
open Go Go.RowKit Go.Proofs.YtbbeobiampbddaaL
set_option maxRecDepth 100000
set_option maxHeartbeats 4000000
theorem esref39_Before.calls {ok : Nat → Prop} {w0 : World} {x1 : history_History} {x5 : Int} {v2 : Value} {r : history_History} (hf : esref39_Before x1 x5 = some r) (i0 : (vl t_history_History x1 v2).holds ok w0) :
    Calls Try.prog 20 #[v2, .int .i64 x5] w0 fun e w' => ∃ v, e = .returned v ∧ ∃ y : (Option Addr × Nat × Nat), v = .agg ([.slice y.1 y.2.1 y.2.2] : List Value).toArray ∧ St ok (bz w0) w' [] [own t_history_Operation 35 (.slice y.1 y.2.1 y.2.2) r.Operations] := by
  unfold esref39_Before at hf
  refine calls_of_W (fn := Try.f20) (N := 38) Try.func20 rfl Try.ntmps20 rfl ?_
  have hs : St ok (bz w0) w0 [vl t_history_History x1 v2] [] := St.init (All.cons i0 All.nil)
  clear i0
  obtain ⟨cs3, hl4, rfl⟩ := hs.aggv (n := 1) 0 rfl rfl rfl
  refine W.seqK fun K6 hK6 => ?_
  refine W.region ?_
  refine WL.box (vs := cs3) hs rfl rfl (fun g7 w hs => ?_)
  refine WL.alloc hs ZV24 (fun g8 w hs => ?_)
  refine WL.nil ?_
  refine hK6 _ _ ?_
  refine W.seqK fun K9 hK9 => ?_
  refine W.region ?_
  refine WL.build (vs := []) (cs := [.slice none 0 0]) trivial (bld PL24 rfl) ?_
  refine WL.alloc hs ZV24 (fun g10 w hs => ?_)
  refine WL.storeAll (vs := [.slice none 0 0]) hs 0 rfl TI24 rfl rfl rfl rfl (ones_of rfl) rfl (fun w hs => ?_)
  refine WL.nil ?_
  refine hK9 _ _ ?_
  refine W.seqK fun K11 hK11 => ?_
  have hs := hs.ownNil t_history_Operation 35
  have Jk17 : ∀ (x13 : List history_Operation) (a14 : Option Addr) (c15 : Nat) (n16 : Nat) (ρ : Env) (w : World), ρ 4 = .pointer (some ⟨g8, 0, none⟩) → ρ 5 = .pointer (some ⟨g10, 0, none⟩) → St ok (bz w0) w [] [own t_history_Operation 35 (.slice a14 n16 c15) x13, blk g10 24 [.slice a14 n16 c15], blk g8 24 [.slice none 0 0]] → esref39_Before.j1 x13 = some r → K11 ρ w := by
    intro x13 a14 c15 n16 ρ w h12_4 h12_5 hs hf
    refine hK11 _ _ ?_
    unfold esref39_Before.j1 at hf
    refine W.seqK fun K18 hK18 => ?_
    refine W.region ?_
    refine WL.loadN (vs := [.slice a14 n16 c15]) hs 1 rfl TI24 h12_5 rfl rfl ?_
    refine WL.storeAll (vs := [.slice a14 n16 c15]) hs 2 rfl TI24 h12_4 rfl rfl rfl (ones_of rfl) rfl (fun w hs => ?_)
    refine WL.nil ?_
    refine hK18 _ _ ?_
    refine W.ret ?_
    have hr := Option.some.inj hf; subst hr
    exact ⟨_, resOk_one rfl (res_all hs 2 rfl TI24 h12_4 rfl), (a14, n16, c15), rfl, (hs.mask [true]).pick []⟩
  refine W.seqK fun K19 hK19 => ?_
  refine W.region ?_
  refine WL.assign (v := .int .i64 0) rfl ?_
  refine WL.nil ?_
  refine hK19 _ _ ?_
  refine W.block ?_
  obtain ⟨bs26, hbs26, hfs26⟩ := bindE hf
  refine W.loop hbs26 (fun s ρ w => match s with | (x21, x22) => ∃ (a23 : Option Addr), ∃ (c24 : Nat), ∃ (n25 : Nat), ρ 1 = .int .i64 x5 ∧ ρ 2 = .pointer (some ⟨g7, 0, none⟩) ∧ ρ 4 = .pointer (some ⟨g8, 0, none⟩) ∧ ρ 5 = .pointer (some ⟨g10, 0, none⟩) ∧ ρ 6 = .int .i64 x21 ∧ St ok (bz w0) w [vl t_history_History x1 (.agg cs3.toArray)] [own t_history_Operation 35 (.slice a23 n25 c24) x22, blk g10 24 [.slice a23 n25 c24], blk g8 24 [.slice none 0 0], blk g7 24 cs3]) ⟨none, 0, 0, rfl, rfl, rfl, rfl, rfl, (hs.mask [true, true, true, true]).pick [0]⟩ ?_
  intro s ρ w os26 hI hf hbbs26
  obtain ⟨x21, x22⟩ := s
  obtain ⟨a23, c24, n25, h20_1, h20_2, h20_4, h20_5, h20_6, hs⟩ := hI
  unfold esref39_Before.l1 at hf
  refine W.seqK fun K27 hK27 => ?_
  refine W.seqK fun K28 hK28 => ?_
  refine W.region ?_
  refine WL.move (v := .int .i64 x21) h20_6 ?_
  refine WL.fieldAddr (m := 0) h20_2 FA24_0 rfl ?_
  refine WL.loadF (z := x1.Operations) F_history_History_Operations hs 3 rfl 0 rfl rfl TI22 (.inr rfl) rfl rfl (fun v29 hs => ?_)
  obtain ⟨a30, c31, rfl⟩ := hs.slice 0 rfl
  refine WL.len (v := .slice a30 (x1.Operations).length c31) rfl (len_slice UN22) ?_
  refine WL.bin (v := .bool (decide (x21 < ((x1.Operations).length : Int)))) rfl rfl (ib_lss _ _ _) ?_
  refine WL.nil ?_
  refine hK28 _ _ ?_
  rcases iteE hf with ⟨hc32, hf⟩ | ⟨hc32, hf⟩
  {
  refine W.cond_true (bool_tr rfl hc32) ?_
  refine W.skip ?_
  refine hK27 _ _ ?_
  refine W.seqK fun K33 hK33 => ?_
  have Jk39 : ∀ (x35 : List history_Operation) (a36 : Option Addr) (c37 : Nat) (n38 : Nat) (ρ : Env) (w : World), ρ 1 = .int .i64 x5 → ρ 2 = .pointer (some ⟨g7, 0, none⟩) → ρ 4 = .pointer (some ⟨g8, 0, none⟩) → ρ 5 = .pointer (some ⟨g10, 0, none⟩) → ρ 6 = .int .i64 x21 → St ok (bz w0) w [vl t_history_History x1 (.agg cs3.toArray)] [own t_history_Operation 35 (.slice a36 n38 c37) x35, blk g10 24 [.slice a36 n38 c37], blk g8 24 [.slice none 0 0], blk g7 24 cs3] → esref39_Before.j2 x21 x35 = some os26 → K33 ρ w := by
    intro x35 a36 c37 n38 ρ w h34_1 h34_2 h34_4 h34_5 h34_6 hs hf
    refine hK33 _ _ ?_
    unfold esref39_Before.j2 at hf
    refine W.region ?_
    refine WL.move (v := .int .i64 x21) h34_6 ?_
    obtain ⟨x40, ex40, hf⟩ := letE hf
    refine WL.bin (v := .int .i64 x40) rfl rfl (ib_as ex40 (ib_add _ _ _)) ?_
    refine WL.assign (v := .int .i64 x40) rfl ?_
    refine WL.nil ?_
    exact ⟨_, (Option.some.inj hf).symm, a36, c37, n38, h34_1, h34_2, h34_4, h34_5, rfl, (hs.mask [true, true, true, true]).pick [0]⟩
  refine W.block ?_
  refine W.seqK fun K41 hK41 => ?_
  refine W.region ?_
  refine WL.fieldAddr (m := 0) h20_2 FA24_0 rfl ?_
  refine WL.loadF (z := x1.Operations) F_history_History_Operations hs 3 rfl 1 rfl rfl TI22 (.inr rfl) rfl rfl (fun v42 hs => ?_)
  obtain ⟨a43, c44, rfl⟩ := hs.slice 0 rfl
  refine WL.move (v := .int .i64 x21) h20_6 ?_
  obtain ⟨x45, hxx45, hf⟩ := bindE hf
  refine WL.indexAddr hs 0 rfl UN22 TI35 rfl rfl hxx45 (fun ad46 hs => ?_)
  refine WL.loadP hs 0 rfl TI35 (.inl rfl) rfl (fun v47 hs => ?_)
  obtain ⟨cs48, hl49, rfl⟩ := hs.aggv (n := 6) 0 rfl rfl rfl
  refine WL.alloc hs ZV35 (fun g50 w hs => ?_)
  obtain ⟨a51, c52, a53, c54, rfl⟩ := open_history_Operation hs 0 rfl
  have hs := hs.add (it := vl (tSlice t_api_Effect) x45.Effects (.slice a51 (x45.Effects).length c52)) fun ok hA => V_fld F_history_Operation_Effects (hA.get 0 rfl) rfl rfl rfl
  have hs := hs.add (it := vl (tSlice t_history_Value) x45.Result (.slice a53 (x45.Result).length c54)) fun ok hA => V_fld F_history_Operation_Result (hA.get 1 rfl) rfl rfl rfl
  refine WL.storeAll (vs := [.int .i64 x45.Process, .int .i64 x45.Kind, .slice a51 (x45.Effects).length c52, .slice a53 (x45.Result).length c54, .int .i64 x45.Call, .int .i64 x45.Return]) hs 0 rfl TI35 rfl rfl rfl rfl (ones_of rfl) rfl (fun w hs => ?_)
  refine WL.nil ?_
  refine hK41 _ _ ?_
  refine W.seqK fun K55 hK55 => ?_
  refine W.seqK fun K56 hK56 => ?_
  refine W.region ?_
  refine WL.fieldAddr (m := 4) rfl FA35_4 rfl ?_
  refine WL.load1 (v := .int .i64 x45.Call) hs 0 rfl TI3 rfl rfl ?_
  refine WL.move (v := .int .i64 x5) h20_1 ?_
  refine WL.bin (v := .bool (decide (x5 ≤ x45.Call))) rfl rfl (ib_geq _ _ _) ?_
  refine WL.nil ?_
  refine hK56 _ _ ?_
  rcases iteE hf with ⟨hc57, hf⟩ | ⟨hc57, hf⟩
  {
  refine W.cond_true (bool_tr rfl hc57) ?_
  refine W.exit ?_
  exact Jk39 x22 a23 c24 n25 _ _ h20_1 h20_2 h20_4 h20_5 h20_6 ((hs.mask [false, true, true, true, true]).pick [6]) hf }
  {
  refine W.cond_false (bool_tr rfl hc57) ?_
  refine W.skip ?_
  refine hK55 _ _ ?_
  refine W.seqK fun K58 hK58 => ?_
  have Jk64 : ∀ (x60 : List history_Value) (x63 : Int) (a61 : Option Addr) (c62 : Nat) (ρ : Env) (w : World), ρ 1 = .int .i64 x5 → ρ 2 = .pointer (some ⟨g7, 0, none⟩) → ρ 4 = .pointer (some ⟨g8, 0, none⟩) → ρ 5 = .pointer (some ⟨g10, 0, none⟩) → ρ 6 = .int .i64 x21 → ρ 7 = .pointer (some ⟨g50, 0, none⟩) → St ok (bz w0) w [vl (tSlice t_api_Effect) x45.Effects (.slice a51 (x45.Effects).length c52), vl (tSlice t_history_Value) x60 (.slice a61 x60.length c62), vl t_history_History x1 (.agg cs3.toArray)] [blk g50 35 [.int .i64 x45.Process, .int .i64 x45.Kind, .slice a51 (x45.Effects).length c52, .slice a61 x60.length c62, .int .i64 x45.Call, .int .i64 x63], own t_history_Operation 35 (.slice a23 n25 c24) x22, blk g10 24 [.slice a23 n25 c24], blk g8 24 [.slice none 0 0], blk g7 24 cs3] → esref39_Before.j3 x21 x22 x45 x60 x63 = some os26 → K58 ρ w := by
    intro x60 x63 a61 c62 ρ w h59_1 h59_2 h59_4 h59_5 h59_6 h59_7 hs hf
    refine hK58 _ _ ?_
    unfold esref39_Before.j3 at hf
    refine W.region ?_
    refine WL.fieldAddr (m := 0) h59_5 FA24_0 rfl ?_
    refine WL.load1 (v := .slice a23 n25 c24) hs 2 rfl TI22 rfl rfl ?_
    refine WL.loadN (vs := [.int .i64 x45.Process, .int .i64 x45.Kind, .slice a51 (x45.Effects).length c52, .slice a61 x60.length c62, .int .i64 x45.Call, .int .i64 x63]) hs 0 rfl TI35 h59_7 rfl rfl ?_
    refine WL.buildSlice (n := 1) (vs := [(0, .agg ([.int .i64 x45.Process, .int .i64 x45.Kind, .slice a51 (x45.Effects).length c52, .slice a61 x60.length c62, .int .i64 x45.Call, .int .i64 x63] : List Value).toArray)]) (cs := [.int .i64 x45.Process, .int .i64 x45.Kind, .slice a51 (x45.Effects).length c52, .slice a61 x60.length c62, .int .i64 x45.Call, .int .i64 x63]) hs ⟨⟨rfl, rfl⟩, trivial⟩ (bls PS22 (by decide) rfl) (fun g65 w hs => ?_)
    obtain ⟨x66, hxx66, hf⟩ := bindE hf
    obtain ⟨hbx66, hex66⟩ := appE hxx66
    refine WL.append (ys := [(⟨x45.Process, x45.Kind, x45.Effects, x60, x45.Call, x63⟩ : history_Operation)]) (zs := x66) hs 2 rfl 0 rfl UN22 EI35 rfl rfl (fun ok hA => (Cells.one (T := t_history_Operation) (show t_history_Operation.R ok _ (⟨x45.Process, x45.Kind, x45.Effects, x60, x45.Call, x63⟩ : history_Operation) _ from ⟨[.int .i64 x45.Process], [.int .i64 x45.Kind, .slice a51 (x45.Effects).length c52, .slice a61 x60.length c62, .int .i64 x45.Call, .int .i64 x63], rfl, rfl, ⟨[.int .i64 x45.Kind], [.slice a51 (x45.Effects).length c52, .slice a61 x60.length c62, .int .i64 x45.Call, .int .i64 x63], rfl, rfl, ⟨[.slice a51 (x45.Effects).length c52], [.slice a61 x60.length c62, .int .i64 x45.Call, .int .i64 x63], rfl, (R_one (hA.get 0 rfl)), ⟨[.slice a61 x60.length c62], [.int .i64 x45.Call, .int .i64 x63], rfl, (R_one (hA.get 1 rfl)), ⟨[.int .i64 x45.Call], [.int .i64 x63], rfl, rfl, rfl⟩⟩⟩⟩⟩))) hbx66 (by omega) hex66 (fun v67 w hs => ?_)
    obtain ⟨a68, n70, c69, rfl⟩ := hs.ownv3 2 rfl
    refine WL.fieldAddr (m := 0) h59_5 FA24_0 rfl ?_
    refine WL.storeAll (vs := [.slice a68 n70 c69]) hs 3 rfl TI22 rfl rfl rfl rfl (ones_of rfl) rfl (fun w hs => ?_)
    refine WL.nil ?_
    exact Jk39 x66 a68 c69 n70 _ _ h59_1 h59_2 h59_4 h59_5 h59_6 ((hs.mask [false, false, true, true, true, true]).pick [2]) hf
  refine W.seqK fun K71 hK71 => ?_
  refine W.region ?_
  refine WL.fieldAddr (m := 5) rfl FA35_5 rfl ?_
  refine WL.load1 (v := .int .i64 x45.Return) hs 0 rfl TI3 rfl rfl ?_
  refine WL.move (v := .int .i64 x5) h20_1 ?_
  refine WL.bin (v := .bool (decide (x5 ≤ x45.Return))) rfl rfl (ib_geq _ _ _) ?_
  refine WL.nil ?_
  refine hK71 _ _ ?_
  rcases iteE hf with ⟨hc72, hf⟩ | ⟨hc72, hf⟩
  {
  refine W.cond_true (bool_tr rfl hc72) ?_
  refine W.seqK fun K73 hK73 => ?_
  refine W.region ?_
  refine WL.fieldAddr (m := 5) rfl FA35_5 rfl ?_
  refine WL.store (vs := [.int .i64 0]) (cs' := [.int .i64 x45.Process, .int .i64 x45.Kind, .slice a51 (x45.Effects).length c52, .slice a53 (x45.Result).length c54, .int .i64 x45.Call, .int .i64 0]) hs 0 rfl TI3 rfl rfl rfl rfl (ones_of rfl) (Nat.le_of_ble_eq_true rfl) rfl (fun w hs => ?_)
  refine WL.nil ?_
  refine hK73 _ _ ?_
  refine W.region ?_
  refine WL.fieldAddr (m := 3) rfl FA35_3 rfl ?_
  refine WL.store (vs := [.slice none 0 0]) (cs' := [.int .i64 x45.Process, .int .i64 x45.Kind, .slice a51 (x45.Effects).length c52, .slice none 0 0, .int .i64 x45.Call, .int .i64 0]) hs 0 rfl TI31 rfl rfl rfl rfl (ones_of rfl) (Nat.le_of_ble_eq_true rfl) rfl (fun w hs => ?_)
  refine WL.nil ?_
  have hs := hs.add (it := vl (tSlice t_history_Value) [] (.slice none 0 0)) fun ok hA => V_nil
  exact Jk64 [] 0 none 0 _ _ h20_1 h20_2 h20_4 h20_5 h20_6 rfl ((hs.mask [true, true, true, true, true]).pick [2, 0, 7]) hf }
  {
  refine W.cond_false (bool_tr rfl hc72) ?_
  refine W.skip ?_
  exact Jk64 x45.Result x45.Return a53 c54 _ _ h20_1 h20_2 h20_4 h20_5 h20_6 rfl ((hs.mask [true, true, true, true, true]).pick [1, 0, 6]) hf } } }
  {
  refine W.cond_false (bool_tr rfl hc32) ?_
  refine W.exit ?_
  have hr := Option.some.inj hf; subst hr
  have hr := hbbs26 _ rfl; subst hr
  have hf := hfs26
  exact Jk17 x22 a23 c24 n25 _ _ h20_4 h20_5 ((hs.mask [true, true, true]).pick []) hf }
theorem esref32_EqualStrings.calls {ok : Nat → Prop} {w0 : World} {x1 : List (List UInt8)} {x4 : List (List UInt8)} {a2 : Option Addr} {c3 : Nat} {a5 : Option Addr} {c6 : Nat} {r : Bool} (hf : esref32_EqualStrings x1 x4 = some r) (i0 : (vl (tSlice tStr) x1 (.slice a2 x1.length c3)).holds ok w0) (i1 : (vl (tSlice tStr) x4 (.slice a5 x4.length c6)).holds ok w0) :
    Calls Try.prog 34 #[.slice a2 x1.length c3, .slice a5 x4.length c6] w0 fun e w' => ∃ v, e = .returned v ∧ ∃ y : Unit, v = .bool r ∧ St ok (bz w0) w' [] [] := by
  unfold esref32_EqualStrings at hf
  refine calls_of_W (fn := Try.f34) (N := 26) Try.func34 rfl Try.ntmps34 rfl ?_
  have hs : St ok (bz w0) w0 [vl (tSlice tStr) x1 (.slice a2 x1.length c3), vl (tSlice tStr) x4 (.slice a5 x4.length c6)] [] := St.init (All.cons i0 (All.cons i1 All.nil))
  clear i0 i1
  refine W.seqK fun K7 hK7 => ?_
  refine W.region ?_
  refine WL.assign (v := .bool false) rfl ?_
  refine WL.nil ?_
  refine hK7 _ _ ?_
  refine W.seqK fun K8 hK8 => ?_
  refine W.seqK fun K9 hK9 => ?_
  refine W.region ?_
  refine WL.move (v := .slice a2 x1.length c3) rfl ?_
  refine WL.len (v := .slice a2 x1.length c3) rfl (len_slice UN59) ?_
  refine WL.move (v := .slice a5 x4.length c6) rfl ?_
  refine WL.len (v := .slice a5 x4.length c6) rfl (len_slice UN59) ?_
  refine WL.bin (v := .bool ((x1.length : Int) != (x4.length : Int))) rfl rfl (ib_neq _ _ _) ?_
  refine WL.nil ?_
  refine hK9 _ _ ?_
  rcases iteE hf with ⟨hc10, hf⟩ | ⟨hc10, hf⟩
  {
  refine W.cond_true (bool_tr rfl hc10) ?_
  refine W.seqK fun K11 hK11 => ?_
  refine W.region ?_
  refine WL.assign (v := .bool false) rfl ?_
  refine WL.nil ?_
  refine hK11 _ _ ?_
  refine W.ret ?_
  have hr := Option.some.inj hf; subst hr
  exact ⟨_, resOk_one rfl rfl, (), rfl, (hs.mask []).pick []⟩ }
  {
  refine W.cond_false (bool_tr rfl hc10) ?_
  refine W.skip ?_
  refine hK8 _ _ ?_
  refine W.seqK fun K12 hK12 => ?_
  have Jk14 : ∀  (ρ : Env) (w : World), St ok (bz w0) w [] [] → esref32_EqualStrings.j1 = some r → K12 ρ w := by
    intro  ρ w  hs hf
    refine hK12 _ _ ?_
    unfold esref32_EqualStrings.j1 at hf
    refine W.seqK fun K15 hK15 => ?_
    refine W.region ?_
    refine WL.assign (v := .bool true) rfl ?_
    refine WL.nil ?_
    refine hK15 _ _ ?_
    refine W.ret ?_
    have hr := Option.some.inj hf; subst hr
    exact ⟨_, resOk_one rfl rfl, (), rfl, (hs.mask []).pick []⟩
  refine W.seqK fun K16 hK16 => ?_
  refine W.region ?_
  refine WL.assign (v := .int .i64 0) rfl ?_
  refine WL.nil ?_
  refine hK16 _ _ ?_
  refine W.block ?_
  obtain ⟨bs19, hbs19, hfs19⟩ := bindE hf
  refine W.loop hbs19 (fun s ρ w => match s with | x18 => ρ 0 = .slice a2 x1.length c3 ∧ ρ 1 = .slice a5 x4.length c6 ∧ ρ 5 = .int .i64 x18 ∧ St ok (bz w0) w [vl (tSlice tStr) x1 (.slice a2 x1.length c3), vl (tSlice tStr) x4 (.slice a5 x4.length c6)] []) ⟨rfl, rfl, rfl, (hs.mask []).pick [0, 1]⟩ ?_
  intro x18 ρ w os19 hI hf hbbs19
  obtain ⟨h17_0, h17_1, h17_5, hs⟩ := hI
  unfold esref32_EqualStrings.l1 at hf
  refine W.seqK fun K20 hK20 => ?_
  refine W.seqK fun K21 hK21 => ?_
  refine W.region ?_
  refine WL.move (v := .int .i64 x18) h17_5 ?_
  refine WL.move (v := .slice a2 x1.length c3) h17_0 ?_
  refine WL.len (v := .slice a2 x1.length c3) rfl (len_slice UN59) ?_
  refine WL.bin (v := .bool (decide (x18 < (x1.length : Int)))) rfl rfl (ib_lss _ _ _) ?_
  refine WL.nil ?_
  refine hK21 _ _ ?_
  rcases iteE hf with ⟨hc22, hf⟩ | ⟨hc22, hf⟩
  {
  refine W.cond_true (bool_tr rfl hc22) ?_
  refine W.skip ?_
  refine hK20 _ _ ?_
  refine W.seqK fun K23 hK23 => ?_
  refine W.block ?_
  refine W.seqK fun K24 hK24 => ?_
  obtain ⟨x25, hxx25, hf⟩ := bindE hf
  obtain ⟨x28, hxx28, hf⟩ := bindE hf
  refine W.any (by kernel_rfl) 9 0 [true, true, true, true, true, true, true, true, true] rfl rfl (poAt [pv (.slice a2 x1.length c3), pv (.int .i64 x18), pq (fun y : Addr => .pointer (some y)) (fun v => [pl tStr x25 (adOf v)]) (fun v => []), pv (bstr x25), pv (.slice a5 x4.length c6), pv (.int .i64 x18), pq (fun y : Addr => .pointer (some y)) (fun v => [pl tStr x28 (adOf v)]) (fun v => []), pv (bstr x28), pv (.bool (x25 != x28))]) (Λ := []) hs (by kernel_rfl) (by kernel_rfl) (by kernel_rfl) ⟨⟨⟨⟨⟨⟨⟨⟨⟨trivial, ?_⟩, ?_⟩, ?_⟩, ?_⟩, ?_⟩, ?_⟩, ?_⟩, ?_⟩, ?_⟩ ?_
  {
  intro ρ w Γx Λx hs hu hp
  refine WL.move (v := .slice a2 x1.length c3) ((hu 0 rfl).trans h17_0) ?_
  exact WL.nil ⟨rfl, _, rfl, rfl, hs.cutG 0 0⟩ }
  {
  intro ρ w Γx Λx hs hu hp
  refine WL.move (v := .int .i64 x18) ((hu 5 rfl).trans h17_5) ?_
  exact WL.nil ⟨rfl, _, rfl, rfl, hs.cutG 0 0⟩ }
  {
  intro ρ w Γx Λx hs hu hp
  have e31 : ρ 17 = .slice a2 x1.length c3 := (hp 0 rfl).1
  have e32 : ρ 18 = .int .i64 x18 := (hp 1 rfl).1
  refine WL.indexAddr hs (Γx.length + 0) (getApp rfl) UN59 TI9 e31 e32 hxx25 (fun ad26 hs => ?_)
  have hs := hs.add (it := pl tStr x25 ad26) fun ok hA => hA.get 0 rfl
  exact WL.nil ⟨rfl, _, rfl, ⟨ad26, rfl⟩, hs.cutG 1 1⟩ }
  {
  intro ρ w Γx Λx hs hu hp
  obtain ⟨⟨ad33, e34r⟩, hm35⟩ := hp 2 rfl
  have e34 : ρ 19 = .pointer (some ad33) := e34r
  rw [e34r] at hm35
  have hs := hs.memo1 (it := pl tStr x25 ad33) (List.mem_append.2 (.inl (hm35 _ (List.mem_of_getElem? (i := 0) rfl))))
  refine WL.loadP hs 0 rfl TI9 (.inr rfl) e34 (fun v27 hs => ?_)
  obtain rfl := hs.str 0 rfl
  exact WL.nil ⟨rfl, _, rfl, rfl, hs.cutG 0 2⟩ }
  {
  intro ρ w Γx Λx hs hu hp
  refine WL.move (v := .slice a5 x4.length c6) ((hu 1 rfl).trans h17_1) ?_
  exact WL.nil ⟨rfl, _, rfl, rfl, hs.cutG 0 0⟩ }
  {
  intro ρ w Γx Λx hs hu hp
  refine WL.move (v := .int .i64 x18) ((hu 5 rfl).trans h17_5) ?_
  exact WL.nil ⟨rfl, _, rfl, rfl, hs.cutG 0 0⟩ }
  {
  intro ρ w Γx Λx hs hu hp
  have e36 : ρ 21 = .slice a5 x4.length c6 := (hp 4 rfl).1
  have e37 : ρ 22 = .int .i64 x18 := (hp 5 rfl).1
  refine WL.indexAddr hs (Γx.length + 1) (getApp rfl) UN59 TI9 e36 e37 hxx28 (fun ad29 hs => ?_)
  have hs := hs.add (it := pl tStr x28 ad29) fun ok hA => hA.get 0 rfl
  exact WL.nil ⟨rfl, _, rfl, ⟨ad29, rfl⟩, hs.cutG 1 1⟩ }
  {
  intro ρ w Γx Λx hs hu hp
  obtain ⟨⟨ad38, e39r⟩, hm40⟩ := hp 6 rfl
  have e39 : ρ 23 = .pointer (some ad38) := e39r
  rw [e39r] at hm40
  have hs := hs.memo1 (it := pl tStr x28 ad38) (List.mem_append.2 (.inl (hm40 _ (List.mem_of_getElem? (i := 0) rfl))))
  refine WL.loadP hs 0 rfl TI9 (.inr rfl) e39 (fun v30 hs => ?_)
  obtain rfl := hs.str 0 rfl
  exact WL.nil ⟨rfl, _, rfl, rfl, hs.cutG 0 2⟩ }
  {
  intro ρ w Γx Λx hs hu hp
  have e41 : ρ 20 = bstr x25 := (hp 3 rfl).1
  have e42 : ρ 24 = bstr x28 := (hp 7 rfl).1
  refine WL.binS (v := .bool (x25 != x28)) e41 e42 (sb_neq _ _) ?_
  exact WL.nil ⟨rfl, _, rfl, rfl, hs.cutG 0 0⟩ }
  {
  intro ρ w hs hu43 hp
  obtain ⟨⟨⟨⟨⟨⟨⟨⟨⟨_, hp0_⟩, hp1_⟩, hp2_⟩, hp3_⟩, hp4_⟩, hp5_⟩, hp6_⟩, hp7_⟩, hp8_⟩ := hp
  have hs : St ok (bz w0) w [pl tStr x28 (adOf (ρ 23)), pl tStr x25 (adOf (ρ 19)), vl (tSlice tStr) x1 (.slice a2 x1.length c3), vl (tSlice tStr) x4 (.slice a5 x4.length c6)] [] := hs
  have e44 : ρ 25 = .bool (x25 != x28) := hp8_
  have e45 : ρ 24 = bstr x28 := hp7_
  obtain ⟨ad46, e47⟩ := hp6_
  have e47 : ρ 23 = .pointer (some ad46) := e47
  try rw [e47] at hs
  have e48 : ρ 22 = .int .i64 x18 := hp5_
  have e49 : ρ 21 = .slice a5 x4.length c6 := hp4_
  have e50 : ρ 20 = bstr x25 := hp3_
  obtain ⟨ad51, e52⟩ := hp2_
  have e52 : ρ 19 = .pointer (some ad51) := e52
  try rw [e52] at hs
  have e53 : ρ 18 = .int .i64 x18 := hp1_
  have e54 : ρ 17 = .slice a2 x1.length c3 := hp0_
  refine WA.done (by kernel_rfl) ?_
  refine hK24 _ _ ?_
  rcases iteE hf with ⟨hc55, hf⟩ | ⟨hc55, hf⟩
  {
  refine W.cond_true (bool_tr e44 hc55) ?_
  refine W.seqK fun K56 hK56 => ?_
  refine W.region ?_
  refine WL.assign (v := .bool false) rfl ?_
  refine WL.nil ?_
  refine hK56 _ _ ?_
  refine W.ret ?_
  have hr := Option.some.inj hf; subst hr
  have hr := hbbs19 _ rfl; subst hr
  have hf := hfs19
  have hr := Option.some.inj hf; subst hr
  exact ⟨_, resOk_one rfl rfl, (), rfl, (hs.mask []).pick []⟩ }
  {
  refine W.cond_false (bool_tr e44 hc55) ?_
  refine W.skip ?_
  refine hK23 _ _ ?_
  refine W.region ?_
  refine WL.move (v := .int .i64 x18) ((hu43 5 rfl).trans h17_5) ?_
  obtain ⟨x57, ex57, hf⟩ := letE hf
  refine WL.bin (v := .int .i64 x57) rfl rfl (ib_as ex57 (ib_add _ _ _)) ?_
  refine WL.assign (v := .int .i64 x57) rfl ?_
  refine WL.nil ?_
  exact ⟨_, (Option.some.inj hf).symm, ((hu43 0 rfl).trans h17_0), ((hu43 1 rfl).trans h17_1), rfl, (hs.mask []).pick [2, 3]⟩ } } }
  {
  refine W.cond_false (bool_tr rfl hc22) ?_
  refine W.exit ?_
  have hr := Option.some.inj hf; subst hr
  have hr := hbbs19 _ rfl; subst hr
  have hf := hfs19
  exact Jk14  _ _  ((hs.mask []).pick []) hf } }
theorem esref39_SameValues.calls {ok : Nat → Prop} {w0 : World} {x1 : List history_Value} {x4 : List history_Value} {a2 : Option Addr} {c3 : Nat} {a5 : Option Addr} {c6 : Nat} {r : Bool} (hf : esref39_SameValues x1 x4 = some r) (i0 : (vl (tSlice t_history_Value) x1 (.slice a2 x1.length c3)).holds ok w0) (i1 : (vl (tSlice t_history_Value) x4 (.slice a5 x4.length c6)).holds ok w0) :
    Calls Try.prog 26 #[.slice a2 x1.length c3, .slice a5 x4.length c6] w0 fun e w' => ∃ v, e = .returned v ∧ ∃ y : Unit, v = .bool r ∧ St ok (bz w0) w' [] [] := by
  unfold esref39_SameValues at hf
  refine calls_of_W (fn := Try.f26) (N := 96) Try.func26 rfl Try.ntmps26 rfl ?_
  have hs : St ok (bz w0) w0 [vl (tSlice t_history_Value) x1 (.slice a2 x1.length c3), vl (tSlice t_history_Value) x4 (.slice a5 x4.length c6)] [] := St.init (All.cons i0 (All.cons i1 All.nil))
  clear i0 i1
  refine W.seqK fun K7 hK7 => ?_
  refine W.region ?_
  refine WL.assign (v := .bool false) rfl ?_
  refine WL.nil ?_
  refine hK7 _ _ ?_
  refine W.seqK fun K8 hK8 => ?_
  refine W.seqK fun K9 hK9 => ?_
  refine W.region ?_
  refine WL.move (v := .slice a2 x1.length c3) rfl ?_
  refine WL.len (v := .slice a2 x1.length c3) rfl (len_slice UN31) ?_
  refine WL.move (v := .slice a5 x4.length c6) rfl ?_
  refine WL.len (v := .slice a5 x4.length c6) rfl (len_slice UN31) ?_
  refine WL.bin (v := .bool ((x1.length : Int) != (x4.length : Int))) rfl rfl (ib_neq _ _ _) ?_
  refine WL.nil ?_
  refine hK9 _ _ ?_
  rcases iteE hf with ⟨hc10, hf⟩ | ⟨hc10, hf⟩
  {
  refine W.cond_true (bool_tr rfl hc10) ?_
  refine W.seqK fun K11 hK11 => ?_
  refine W.region ?_
  refine WL.assign (v := .bool false) rfl ?_
  refine WL.nil ?_
  refine hK11 _ _ ?_
  refine W.ret ?_
  have hr := Option.some.inj hf; subst hr
  exact ⟨_, resOk_one rfl rfl, (), rfl, (hs.mask []).pick []⟩ }
  {
  refine W.cond_false (bool_tr rfl hc10) ?_
  refine W.skip ?_
  refine hK8 _ _ ?_
  refine W.seqK fun K12 hK12 => ?_
  have Jk14 : ∀  (ρ : Env) (w : World), St ok (bz w0) w [] [] → esref39_SameValues.j1 = some r → K12 ρ w := by
    intro  ρ w  hs hf
    refine hK12 _ _ ?_
    unfold esref39_SameValues.j1 at hf
    refine W.seqK fun K15 hK15 => ?_
    refine W.region ?_
    refine WL.assign (v := .bool true) rfl ?_
    refine WL.nil ?_
    refine hK15 _ _ ?_
    refine W.ret ?_
    have hr := Option.some.inj hf; subst hr
    exact ⟨_, resOk_one rfl rfl, (), rfl, (hs.mask []).pick []⟩
  refine W.seqK fun K16 hK16 => ?_
  refine W.region ?_
  refine WL.assign (v := .int .i64 0) rfl ?_
  refine WL.nil ?_
  refine hK16 _ _ ?_
  refine W.block ?_
  obtain ⟨bs19, hbs19, hfs19⟩ := bindE hf
  refine W.loop hbs19 (fun s ρ w => match s with | x18 => ρ 0 = .slice a2 x1.length c3 ∧ ρ 1 = .slice a5 x4.length c6 ∧ ρ 5 = .int .i64 x18 ∧ St ok (bz w0) w [vl (tSlice t_history_Value) x1 (.slice a2 x1.length c3), vl (tSlice t_history_Value) x4 (.slice a5 x4.length c6)] []) ⟨rfl, rfl, rfl, (hs.mask []).pick [0, 1]⟩ ?_
  intro x18 ρ w os19 hI hf hbbs19
  obtain ⟨h17_0, h17_1, h17_5, hs⟩ := hI
  unfold esref39_SameValues.l1 at hf
  refine W.seqK fun K20 hK20 => ?_
  refine W.seqK fun K21 hK21 => ?_
  refine W.region ?_
  refine WL.move (v := .int .i64 x18) h17_5 ?_
  refine WL.move (v := .slice a2 x1.length c3) h17_0 ?_
  refine WL.len (v := .slice a2 x1.length c3) rfl (len_slice UN31) ?_
  refine WL.bin (v := .bool (decide (x18 < (x1.length : Int)))) rfl rfl (ib_lss _ _ _) ?_
  refine WL.nil ?_
  refine hK21 _ _ ?_
  rcases iteE hf with ⟨hc22, hf⟩ | ⟨hc22, hf⟩
  {
  refine W.cond_true (bool_tr rfl hc22) ?_
  refine W.skip ?_
  refine hK20 _ _ ?_
  refine W.seqK fun K23 hK23 => ?_
  refine W.block ?_
  refine W.seqK fun K24 hK24 => ?_
  have Jk34 : ∀ (x27 : history_Value) (x31 : history_Value) (g26 : Nat) (cs28 : List Value) (g30 : Nat) (cs32 : List Value) (ρ : Env) (w : World), cs28.length = 10 → cs32.length = 10 → ρ 0 = .slice a2 x1.length c3 → ρ 1 = .slice a5 x4.length c6 → ρ 5 = .int .i64 x18 → ρ 6 = .pointer (some ⟨g26, 0, none⟩) → ρ 7 = .pointer (some ⟨g30, 0, none⟩) → St ok (bz w0) w [vl (tSlice t_history_Value) x1 (.slice a2 x1.length c3), vl (tSlice t_history_Value) x4 (.slice a5 x4.length c6), vl t_history_Value x27 (.agg cs28.toArray), vl t_history_Value x31 (.agg cs32.toArray)] [blk g26 68 cs28, blk g30 68 cs32] → esref39_SameValues.j3 x18 x27 x31 = some os19 → K24 ρ w := by
    intro x27 x31 g26 cs28 g30 cs32 ρ w hl29 hl33 h25_0 h25_1 h25_5 h25_6 h25_7 hs hf
    refine hK24 _ _ ?_
    unfold esref39_SameValues.j3 at hf
    refine W.seqK fun K35 hK35 => ?_
    have Jk38 : ∀ (x37 : Bool) (ρ : Env) (w : World), ρ 0 = .slice a2 x1.length c3 → ρ 1 = .slice a5 x4.length c6 → ρ 5 = .int .i64 x18 → ρ 95 = .bool x37 → St ok (bz w0) w [vl (tSlice t_history_Value) x1 (.slice a2 x1.length c3), vl (tSlice t_history_Value) x4 (.slice a5 x4.length c6)] [] → esref39_SameValues.j2 x18 x37 = some os19 → K35 ρ w := by
      intro x37 ρ w h36_0 h36_1 h36_5 h36_95 hs hf
      refine hK35 _ _ ?_
      unfold esref39_SameValues.j2 at hf
      rcases iteE hf with ⟨hc39, hf⟩ | ⟨hc39, hf⟩
      {
      refine W.cond_true (bool_tr h36_95 hc39) ?_
      refine W.seqK fun K40 hK40 => ?_
      refine W.region ?_
      refine WL.assign (v := .bool false) rfl ?_
      refine WL.nil ?_
      refine hK40 _ _ ?_
      refine W.ret ?_
      have hr := Option.some.inj hf; subst hr
      have hr := hbbs19 _ rfl; subst hr
      have hf := hfs19
      have hr := Option.some.inj hf; subst hr
      exact ⟨_, resOk_one rfl rfl, (), rfl, (hs.mask []).pick []⟩ }
      {
      refine W.cond_false (bool_tr h36_95 hc39) ?_
      refine W.skip ?_
      refine hK23 _ _ ?_
      refine W.region ?_
      refine WL.move (v := .int .i64 x18) h36_5 ?_
      obtain ⟨x41, ex41, hf⟩ := letE hf
      refine WL.bin (v := .int .i64 x41) rfl rfl (ib_as ex41 (ib_add _ _ _)) ?_
      refine WL.assign (v := .int .i64 x41) rfl ?_
      refine WL.nil ?_
      exact ⟨_, (Option.some.inj hf).symm, h36_0, h36_1, rfl, (hs.mask []).pick [0, 1]⟩ }
    refine W.region ?_
    refine WL.fieldAddr (m := 0) h25_6 FA68_0 rfl ?_
    refine WL.loadF (z := x27.Object) F_history_Value_Object hs 0 rfl 2 rfl rfl TI9 (.inr rfl) rfl rfl (fun v42 hs => ?_)
    obtain rfl := hs.str 0 rfl
    refine WL.fieldAddr (m := 0) h25_7 FA68_0 rfl ?_
    refine WL.loadF (z := x31.Object) F_history_Value_Object hs 1 rfl 4 rfl rfl TI9 (.inr rfl) rfl rfl (fun v43 hs => ?_)
    obtain rfl := hs.str 0 rfl
    refine WL.binS (v := .bool (x27.Object != x31.Object)) rfl rfl (sb_neq _ _) ?_
    refine WL.move (v := .bool (x27.Object != x31.Object)) rfl ?_
    rcases iteE hf with ⟨hc44, hf⟩ | ⟨hc44, hf⟩
    {
    refine WL.pass ((wanted_of rfl rfl (bool_tr rfl hc44)).trans rfl) rfl ?_
    refine WL.pass ((wanted_of rfl rfl (bool_tr rfl hc44)).trans rfl) rfl ?_
    refine WL.pass ((wanted_of rfl rfl (bool_tr rfl hc44)).trans rfl) rfl ?_
    refine WL.pass ((wanted_of rfl rfl (bool_tr rfl hc44)).trans rfl) rfl ?_
    refine WL.pass ((wanted_of rfl rfl (bool_tr rfl hc44)).trans rfl) rfl ?_
    refine WL.pickT (v := .bool true) (bool_tr rfl hc44) rfl ?_
    refine WL.move (v := .bool true) rfl ?_
    refine WL.pass ((wanted_of rfl rfl rfl).trans rfl) rfl ?_
    refine WL.pass ((wanted_of rfl rfl rfl).trans rfl) rfl ?_
    refine WL.pass ((wanted_of rfl rfl rfl).trans rfl) rfl ?_
    refine WL.pass ((wanted_of rfl rfl rfl).trans rfl) rfl ?_
    refine WL.pass ((wanted_of rfl rfl rfl).trans rfl) rfl ?_
    refine WL.pickT (v := .bool true) rfl rfl ?_
    refine WL.move (v := .bool true) rfl ?_
    refine WL.pass ((wanted_of rfl rfl rfl).trans rfl) rfl ?_
    refine WL.pass ((wanted_of rfl rfl rfl).trans rfl) rfl ?_
    refine WL.pass ((wanted_of rfl rfl rfl).trans rfl) rfl ?_
    refine WL.pass ((wanted_of rfl rfl rfl).trans rfl) rfl ?_
    refine WL.pass ((wanted_of rfl rfl rfl).trans rfl) rfl ?_
    refine WL.pickT (v := .bool true) rfl rfl ?_
    refine WL.move (v := .bool true) rfl ?_
    refine WL.pass ((wanted_of rfl rfl rfl).trans rfl) rfl ?_
    refine WL.pass ((wanted_of rfl rfl rfl).trans rfl) rfl ?_
    refine WL.pass ((wanted_of rfl rfl rfl).trans rfl) rfl ?_
    refine WL.pass ((wanted_of rfl rfl rfl).trans rfl) rfl ?_
    refine WL.pass ((wanted_of rfl rfl rfl).trans rfl) rfl ?_
    refine WL.pickT (v := .bool true) rfl rfl ?_
    refine WL.move (v := .bool true) rfl ?_
    refine WL.pass ((wanted_of rfl rfl rfl).trans rfl) rfl ?_
    refine WL.pass ((wanted_of rfl rfl rfl).trans rfl) rfl ?_
    refine WL.pass ((wanted_of rfl rfl rfl).trans rfl) rfl ?_
    refine WL.pass ((wanted_of rfl rfl rfl).trans rfl) rfl ?_
    refine WL.pass ((wanted_of rfl rfl rfl).trans rfl) rfl ?_
    refine WL.pickT (v := .bool true) rfl rfl ?_
    refine WL.move (v := .bool true) rfl ?_
    refine WL.pass ((wanted_of rfl rfl rfl).trans rfl) rfl ?_
    refine WL.pass ((wanted_of rfl rfl rfl).trans rfl) rfl ?_
    refine WL.pass ((wanted_of rfl rfl rfl).trans rfl) rfl ?_
    refine WL.pass ((wanted_of rfl rfl rfl).trans rfl) rfl ?_
    refine WL.pass ((wanted_of rfl rfl rfl).trans rfl) rfl ?_
    refine WL.pickT (v := .bool true) rfl rfl ?_
    refine WL.move (v := .bool true) rfl ?_
    refine WL.pass ((wanted_of rfl rfl rfl).trans rfl) rfl ?_
    refine WL.pass ((wanted_of rfl rfl rfl).trans rfl) rfl ?_
    refine WL.pass ((wanted_of rfl rfl rfl).trans rfl) rfl ?_
    refine WL.pass ((wanted_of rfl rfl rfl).trans rfl) rfl ?_
    refine WL.pass ((wanted_of rfl rfl rfl).trans rfl) rfl ?_
    refine WL.pickT (v := .bool true) rfl rfl ?_
    refine WL.move (v := .bool true) rfl ?_
    refine WL.pass ((wanted_of rfl rfl rfl).trans rfl) rfl ?_
    refine WL.pass ((wanted_of rfl rfl rfl).trans rfl) rfl ?_
    refine WL.pass ((wanted_of rfl rfl rfl).trans rfl) rfl ?_
    refine WL.pass ((wanted_of rfl rfl rfl).trans rfl) rfl ?_
    refine WL.pass ((wanted_of rfl rfl rfl).trans rfl) rfl ?_
    refine WL.pickT (v := .bool true) rfl rfl ?_
    refine WL.move (v := .bool true) rfl ?_
    refine WL.pass ((wanted_of rfl rfl rfl).trans rfl) rfl ?_
    refine WL.pass ((wanted_of rfl rfl rfl).trans rfl) rfl ?_
    refine WL.pass ((wanted_of rfl rfl rfl).trans rfl) rfl ?_
    refine WL.pass ((wanted_of rfl rfl rfl).trans rfl) rfl ?_
    refine WL.pass ((wanted_of rfl rfl rfl).trans rfl) rfl ?_
    refine WL.pass ((wanted_of rfl rfl rfl).trans rfl) rfl ?_
    refine WL.pickT (v := .bool true) rfl rfl ?_
    refine WL.nil ?_
    exact Jk38 true _ _ h25_0 h25_1 h25_5 rfl ((hs.mask []).pick [2, 3]) hf }
    {
    refine WL.fieldAddr (m := 1) h25_6 FA68_1 rfl ?_ (hg := (wanted_of rfl rfl (bool_tr rfl hc44)).trans rfl)
    refine WL.loadF (z := x27.Field) F_history_Value_Field hs 0 rfl 4 rfl rfl TI9 (.inr rfl) rfl rfl (fun v45 hs => ?_) (hg := (wanted_of rfl rfl (bool_tr rfl hc44)).trans rfl)
    obtain rfl := hs.str 0 rfl
    refine WL.fieldAddr (m := 1) h25_7 FA68_1 rfl ?_ (hg := (wanted_of rfl rfl (bool_tr rfl hc44)).trans rfl)
    refine WL.loadF (z := x31.Field) F_history_Value_Field hs 1 rfl 6 rfl rfl TI9 (.inr rfl) rfl rfl (fun v46 hs => ?_) (hg := (wanted_of rfl rfl (bool_tr rfl hc44)).trans rfl)
    obtain rfl := hs.str 0 rfl
    refine WL.binS (v := .bool (x27.Field != x31.Field)) rfl rfl (sb_neq _ _) ?_ (hg := (wanted_of rfl rfl (bool_tr rfl hc44)).trans rfl)
    refine WL.pickF (v := .bool (x27.Field != x31.Field)) (bool_tr rfl hc44) rfl ?_
    refine WL.move (v := .bool (x27.Field != x31.Field)) rfl ?_
    rcases iteE hf with ⟨hc47, hf⟩ | ⟨hc47, hf⟩
    {
    refine WL.pass ((wanted_of rfl rfl (bool_tr rfl hc47)).trans rfl) rfl ?_
    refine WL.pass ((wanted_of rfl rfl (bool_tr rfl hc47)).trans rfl) rfl ?_
    refine WL.pass ((wanted_of rfl rfl (bool_tr rfl hc47)).trans rfl) rfl ?_
    refine WL.pass ((wanted_of rfl rfl (bool_tr rfl hc47)).trans rfl) rfl ?_
    refine WL.pass ((wanted_of rfl rfl (bool_tr rfl hc47)).trans rfl) rfl ?_
    refine WL.pickT (v := .bool true) (bool_tr rfl hc47) rfl ?_
    refine WL.move (v := .bool true) rfl ?_
    refine WL.pass ((wanted_of rfl rfl rfl).trans rfl) rfl ?_
    refine WL.pass ((wanted_of rfl rfl rfl).trans rfl) rfl ?_
    refine WL.pass ((wanted_of rfl rfl rfl).trans rfl) rfl ?_
    refine WL.pass ((wanted_of rfl rfl rfl).trans rfl) rfl ?_
    refine WL.pass ((wanted_of rfl rfl rfl).trans rfl) rfl ?_
    refine WL.pickT (v := .bool true) rfl rfl ?_
    refine WL.move (v := .bool true) rfl ?_
    refine WL.pass ((wanted_of rfl rfl rfl).trans rfl) rfl ?_
    refine WL.pass ((wanted_of rfl rfl rfl).trans rfl) rfl ?_
    refine WL.pass ((wanted_of rfl rfl rfl).trans rfl) rfl ?_
    refine WL.pass ((wanted_of rfl rfl rfl).trans rfl) rfl ?_
    refine WL.pass ((wanted_of rfl rfl rfl).trans rfl) rfl ?_
    refine WL.pickT (v := .bool true) rfl rfl ?_
    refine WL.move (v := .bool true) rfl ?_
    refine WL.pass ((wanted_of rfl rfl rfl).trans rfl) rfl ?_
    refine WL.pass ((wanted_of rfl rfl rfl).trans rfl) rfl ?_
    refine WL.pass ((wanted_of rfl rfl rfl).trans rfl) rfl ?_
    refine WL.pass ((wanted_of rfl rfl rfl).trans rfl) rfl ?_
    refine WL.pass ((wanted_of rfl rfl rfl).trans rfl) rfl ?_
    refine WL.pickT (v := .bool true) rfl rfl ?_
    refine WL.move (v := .bool true) rfl ?_
    refine WL.pass ((wanted_of rfl rfl rfl).trans rfl) rfl ?_
    refine WL.pass ((wanted_of rfl rfl rfl).trans rfl) rfl ?_
    refine WL.pass ((wanted_of rfl rfl rfl).trans rfl) rfl ?_
    refine WL.pass ((wanted_of rfl rfl rfl).trans rfl) rfl ?_
    refine WL.pass ((wanted_of rfl rfl rfl).trans rfl) rfl ?_
    refine WL.pickT (v := .bool true) rfl rfl ?_
    refine WL.move (v := .bool true) rfl ?_
    refine WL.pass ((wanted_of rfl rfl rfl).trans rfl) rfl ?_
    refine WL.pass ((wanted_of rfl rfl rfl).trans rfl) rfl ?_
    refine WL.pass ((wanted_of rfl rfl rfl).trans rfl) rfl ?_
    refine WL.pass ((wanted_of rfl rfl rfl).trans rfl) rfl ?_
    refine WL.pass ((wanted_of rfl rfl rfl).trans rfl) rfl ?_
    refine WL.pickT (v := .bool true) rfl rfl ?_
    refine WL.move (v := .bool true) rfl ?_
    refine WL.pass ((wanted_of rfl rfl rfl).trans rfl) rfl ?_
    refine WL.pass ((wanted_of rfl rfl rfl).trans rfl) rfl ?_
    refine WL.pass ((wanted_of rfl rfl rfl).trans rfl) rfl ?_
    refine WL.pass ((wanted_of rfl rfl rfl).trans rfl) rfl ?_
    refine WL.pass ((wanted_of rfl rfl rfl).trans rfl) rfl ?_
    refine WL.pickT (v := .bool true) rfl rfl ?_
    refine WL.move (v := .bool true) rfl ?_
    refine WL.pass ((wanted_of rfl rfl rfl).trans rfl) rfl ?_
    refine WL.pass ((wanted_of rfl rfl rfl).trans rfl) rfl ?_
    refine WL.pass ((wanted_of rfl rfl rfl).trans rfl) rfl ?_
    refine WL.pass ((wanted_of rfl rfl rfl).trans rfl) rfl ?_
    refine WL.pass ((wanted_of rfl rfl rfl).trans rfl) rfl ?_
    refine WL.pass ((wanted_of rfl rfl rfl).trans rfl) rfl ?_
    refine WL.pickT (v := .bool true) rfl rfl ?_
    refine WL.nil ?_
    exact Jk38 true _ _ h25_0 h25_1 h25_5 rfl ((hs.mask []).pick [4, 5]) hf }
    {
    refine WL.fieldAddr (m := 2) h25_6 FA68_2 rfl ?_ (hg := (wanted_of rfl rfl (bool_tr rfl hc47)).trans rfl)
    refine WL.loadF (z := x27.Set) F_history_Value_Set hs 0 rfl 6 rfl rfl TI4 (.inr rfl) rfl rfl (fun v48 hs => ?_) (hg := (wanted_of rfl rfl (bool_tr rfl hc47)).trans rfl)
    obtain rfl := hs.bool 0 rfl
    refine WL.fieldAddr (m := 2) h25_7 FA68_2 rfl ?_ (hg := (wanted_of rfl rfl (bool_tr rfl hc47)).trans rfl)
    refine WL.loadF (z := x31.Set) F_history_Value_Set hs 1 rfl 8 rfl rfl TI4 (.inr rfl) rfl rfl (fun v49 hs => ?_) (hg := (wanted_of rfl rfl (bool_tr rfl hc47)).trans rfl)
    obtain rfl := hs.bool 0 rfl
    refine WL.neB UN4 rfl rfl ?_ (hg := (wanted_of rfl rfl (bool_tr rfl hc47)).trans rfl)
    refine WL.pickF (v := .bool (x27.Set != x31.Set)) (bool_tr rfl hc47) rfl ?_
    refine WL.move (v := .bool (x27.Set != x31.Set)) rfl ?_
    rcases iteE hf with ⟨hc50, hf⟩ | ⟨hc50, hf⟩
    {
    refine WL.pass ((wanted_of rfl rfl (bool_tr rfl hc50)).trans rfl) rfl ?_
    refine WL.pass ((wanted_of rfl rfl (bool_tr rfl hc50)).trans rfl) rfl ?_
    refine WL.pass ((wanted_of rfl rfl (bool_tr rfl hc50)).trans rfl) rfl ?_
    refine WL.pass ((wanted_of rfl rfl (bool_tr rfl hc50)).trans rfl) rfl ?_
    refine WL.pass ((wanted_of rfl rfl (bool_tr rfl hc50)).trans rfl) rfl ?_
    refine WL.pickT (v := .bool true) (bool_tr rfl hc50) rfl ?_
    refine WL.move (v := .bool true) rfl ?_
    refine WL.pass ((wanted_of rfl rfl rfl).trans rfl) rfl ?_
    refine WL.pass ((wanted_of rfl rfl rfl).trans rfl) rfl ?_
    refine WL.pass ((wanted_of rfl rfl rfl).trans rfl) rfl ?_
    refine WL.pass ((wanted_of rfl rfl rfl).trans rfl) rfl ?_
    refine WL.pass ((wanted_of rfl rfl rfl).trans rfl) rfl ?_
    refine WL.pickT (v := .bool true) rfl rfl ?_
    refine WL.move (v := .bool true) rfl ?_
    refine WL.pass ((wanted_of rfl rfl rfl).trans rfl) rfl ?_
    refine WL.pass ((wanted_of rfl rfl rfl).trans rfl) rfl ?_
    refine WL.pass ((wanted_of rfl rfl rfl).trans rfl) rfl ?_
    refine WL.pass ((wanted_of rfl rfl rfl).trans rfl) rfl ?_
    refine WL.pass ((wanted_of rfl rfl rfl).trans rfl) rfl ?_
    refine WL.pickT (v := .bool true) rfl rfl ?_
    refine WL.move (v := .bool true) rfl ?_
    refine WL.pass ((wanted_of rfl rfl rfl).trans rfl) rfl ?_
    refine WL.pass ((wanted_of rfl rfl rfl).trans rfl) rfl ?_
    refine WL.pass ((wanted_of rfl rfl rfl).trans rfl) rfl ?_
    refine WL.pass ((wanted_of rfl rfl rfl).trans rfl) rfl ?_
    refine WL.pass ((wanted_of rfl rfl rfl).trans rfl) rfl ?_
    refine WL.pickT (v := .bool true) rfl rfl ?_
    refine WL.move (v := .bool true) rfl ?_
    refine WL.pass ((wanted_of rfl rfl rfl).trans rfl) rfl ?_
    refine WL.pass ((wanted_of rfl rfl rfl).trans rfl) rfl ?_
    refine WL.pass ((wanted_of rfl rfl rfl).trans rfl) rfl ?_
    refine WL.pass ((wanted_of rfl rfl rfl).trans rfl) rfl ?_
    refine WL.pass ((wanted_of rfl rfl rfl).trans rfl) rfl ?_
    refine WL.pickT (v := .bool true) rfl rfl ?_
    refine WL.move (v := .bool true) rfl ?_
    refine WL.pass ((wanted_of rfl rfl rfl).trans rfl) rfl ?_
    refine WL.pass ((wanted_of rfl rfl rfl).trans rfl) rfl ?_
    refine WL.pass ((wanted_of rfl rfl rfl).trans rfl) rfl ?_
    refine WL.pass ((wanted_of rfl rfl rfl).trans rfl) rfl ?_
    refine WL.pass ((wanted_of rfl rfl rfl).trans rfl) rfl ?_
    refine WL.pickT (v := .bool true) rfl rfl ?_
    refine WL.move (v := .bool true) rfl ?_
    refine WL.pass ((wanted_of rfl rfl rfl).trans rfl) rfl ?_
    refine WL.pass ((wanted_of rfl rfl rfl).trans rfl) rfl ?_
    refine WL.pass ((wanted_of rfl rfl rfl).trans rfl) rfl ?_
    refine WL.pass ((wanted_of rfl rfl rfl).trans rfl) rfl ?_
    refine WL.pass ((wanted_of rfl rfl rfl).trans rfl) rfl ?_
    refine WL.pass ((wanted_of rfl rfl rfl).trans rfl) rfl ?_
    refine WL.pickT (v := .bool true) rfl rfl ?_
    refine WL.nil ?_
    exact Jk38 true _ _ h25_0 h25_1 h25_5 rfl ((hs.mask []).pick [6, 7]) hf }
    {
    refine WL.fieldAddr (m := 3) h25_6 FA68_3 rfl ?_ (hg := (wanted_of rfl rfl (bool_tr rfl hc50)).trans rfl)
    refine WL.loadF (z := x27.N) F_history_Value_N hs 0 rfl 8 rfl rfl TI2 (.inr rfl) rfl rfl (fun v51 hs => ?_) (hg := (wanted_of rfl rfl (bool_tr rfl hc50)).trans rfl)
    obtain rfl := hs.int 0 rfl
    refine WL.fieldAddr (m := 3) h25_7 FA68_3 rfl ?_ (hg := (wanted_of rfl rfl (bool_tr rfl hc50)).trans rfl)
    refine WL.loadF (z := x31.N) F_history_Value_N hs 1 rfl 10 rfl rfl TI2 (.inr rfl) rfl rfl (fun v52 hs => ?_) (hg := (wanted_of rfl rfl (bool_tr rfl hc50)).trans rfl)
    obtain rfl := hs.int 0 rfl
    refine WL.bin (v := .bool (x27.N != x31.N)) rfl rfl (ib_neq _ _ _) ?_ (hg := (wanted_of rfl rfl (bool_tr rfl hc50)).trans rfl)
    refine WL.pickF (v := .bool (x27.N != x31.N)) (bool_tr rfl hc50) rfl ?_
    refine WL.move (v := .bool (x27.N != x31.N)) rfl ?_
    rcases iteE hf with ⟨hc53, hf⟩ | ⟨hc53, hf⟩
    {
    refine WL.pass ((wanted_of rfl rfl (bool_tr rfl hc53)).trans rfl) rfl ?_
    refine WL.pass ((wanted_of rfl rfl (bool_tr rfl hc53)).trans rfl) rfl ?_
    refine WL.pass ((wanted_of rfl rfl (bool_tr rfl hc53)).trans rfl) rfl ?_
    refine WL.pass ((wanted_of rfl rfl (bool_tr rfl hc53)).trans rfl) rfl ?_
    refine WL.pass ((wanted_of rfl rfl (bool_tr rfl hc53)).trans rfl) rfl ?_
    refine WL.pickT (v := .bool true) (bool_tr rfl hc53) rfl ?_
    refine WL.move (v := .bool true) rfl ?_
    refine WL.pass ((wanted_of rfl rfl rfl).trans rfl) rfl ?_
    refine WL.pass ((wanted_of rfl rfl rfl).trans rfl) rfl ?_
    refine WL.pass ((wanted_of rfl rfl rfl).trans rfl) rfl ?_
    refine WL.pass ((wanted_of rfl rfl rfl).trans rfl) rfl ?_
    refine WL.pass ((wanted_of rfl rfl rfl).trans rfl) rfl ?_
    refine WL.pickT (v := .bool true) rfl rfl ?_
    refine WL.move (v := .bool true) rfl ?_
    refine WL.pass ((wanted_of rfl rfl rfl).trans rfl) rfl ?_
    refine WL.pass ((wanted_of rfl rfl rfl).trans rfl) rfl ?_
    refine WL.pass ((wanted_of rfl rfl rfl).trans rfl) rfl ?_
    refine WL.pass ((wanted_of rfl rfl rfl).trans rfl) rfl ?_
    refine WL.pass ((wanted_of rfl rfl rfl).trans rfl) rfl ?_
    refine WL.pickT (v := .bool true) rfl rfl ?_
    refine WL.move (v := .bool true) rfl ?_
    refine WL.pass ((wanted_of rfl rfl rfl).trans rfl) rfl ?_
    refine WL.pass ((wanted_of rfl rfl rfl).trans rfl) rfl ?_
    refine WL.pass ((wanted_of rfl rfl rfl).trans rfl) rfl ?_
    refine WL.pass ((wanted_of rfl rfl rfl).trans rfl) rfl ?_
    refine WL.pass ((wanted_of rfl rfl rfl).trans rfl) rfl ?_
    refine WL.pickT (v := .bool true) rfl rfl ?_
    refine WL.move (v := .bool true) rfl ?_
    refine WL.pass ((wanted_of rfl rfl rfl).trans rfl) rfl ?_
    refine WL.pass ((wanted_of rfl rfl rfl).trans rfl) rfl ?_
    refine WL.pass ((wanted_of rfl rfl rfl).trans rfl) rfl ?_
    refine WL.pass ((wanted_of rfl rfl rfl).trans rfl) rfl ?_
    refine WL.pass ((wanted_of rfl rfl rfl).trans rfl) rfl ?_
    refine WL.pickT (v := .bool true) rfl rfl ?_
    refine WL.move (v := .bool true) rfl ?_
    refine WL.pass ((wanted_of rfl rfl rfl).trans rfl) rfl ?_
    refine WL.pass ((wanted_of rfl rfl rfl).trans rfl) rfl ?_
    refine WL.pass ((wanted_of rfl rfl rfl).trans rfl) rfl ?_
    refine WL.pass ((wanted_of rfl rfl rfl).trans rfl) rfl ?_
    refine WL.pass ((wanted_of rfl rfl rfl).trans rfl) rfl ?_
    refine WL.pass ((wanted_of rfl rfl rfl).trans rfl) rfl ?_
    refine WL.pickT (v := .bool true) rfl rfl ?_
    refine WL.nil ?_
    exact Jk38 true _ _ h25_0 h25_1 h25_5 rfl ((hs.mask []).pick [8, 9]) hf }
    {
    refine WL.fieldAddr (m := 4) h25_6 FA68_4 rfl ?_ (hg := (wanted_of rfl rfl (bool_tr rfl hc53)).trans rfl)
    refine WL.loadF (z := x27.S) F_history_Value_S hs 0 rfl 10 rfl rfl TI9 (.inr rfl) rfl rfl (fun v54 hs => ?_) (hg := (wanted_of rfl rfl (bool_tr rfl hc53)).trans rfl)
    obtain rfl := hs.str 0 rfl
    refine WL.fieldAddr (m := 4) h25_7 FA68_4 rfl ?_ (hg := (wanted_of rfl rfl (bool_tr rfl hc53)).trans rfl)
    refine WL.loadF (z := x31.S) F_history_Value_S hs 1 rfl 12 rfl rfl TI9 (.inr rfl) rfl rfl (fun v55 hs => ?_) (hg := (wanted_of rfl rfl (bool_tr rfl hc53)).trans rfl)
    obtain rfl := hs.str 0 rfl
    refine WL.binS (v := .bool (x27.S != x31.S)) rfl rfl (sb_neq _ _) ?_ (hg := (wanted_of rfl rfl (bool_tr rfl hc53)).trans rfl)
    refine WL.pickF (v := .bool (x27.S != x31.S)) (bool_tr rfl hc53) rfl ?_
    refine WL.move (v := .bool (x27.S != x31.S)) rfl ?_
    rcases iteE hf with ⟨hc56, hf⟩ | ⟨hc56, hf⟩
    {
    refine WL.pass ((wanted_of rfl rfl (bool_tr rfl hc56)).trans rfl) rfl ?_
    refine WL.pass ((wanted_of rfl rfl (bool_tr rfl hc56)).trans rfl) rfl ?_
    refine WL.pass ((wanted_of rfl rfl (bool_tr rfl hc56)).trans rfl) rfl ?_
    refine WL.pass ((wanted_of rfl rfl (bool_tr rfl hc56)).trans rfl) rfl ?_
    refine WL.pass ((wanted_of rfl rfl (bool_tr rfl hc56)).trans rfl) rfl ?_
    refine WL.pickT (v := .bool true) (bool_tr rfl hc56) rfl ?_
    refine WL.move (v := .bool true) rfl ?_
    refine WL.pass ((wanted_of rfl rfl rfl).trans rfl) rfl ?_
    refine WL.pass ((wanted_of rfl rfl rfl).trans rfl) rfl ?_
    refine WL.pass ((wanted_of rfl rfl rfl).trans rfl) rfl ?_
    refine WL.pass ((wanted_of rfl rfl rfl).trans rfl) rfl ?_
    refine WL.pass ((wanted_of rfl rfl rfl).trans rfl) rfl ?_
    refine WL.pickT (v := .bool true) rfl rfl ?_
    refine WL.move (v := .bool true) rfl ?_
    refine WL.pass ((wanted_of rfl rfl rfl).trans rfl) rfl ?_
    refine WL.pass ((wanted_of rfl rfl rfl).trans rfl) rfl ?_
    refine WL.pass ((wanted_of rfl rfl rfl).trans rfl) rfl ?_
    refine WL.pass ((wanted_of rfl rfl rfl).trans rfl) rfl ?_
    refine WL.pass ((wanted_of rfl rfl rfl).trans rfl) rfl ?_
    refine WL.pickT (v := .bool true) rfl rfl ?_
    refine WL.move (v := .bool true) rfl ?_
    refine WL.pass ((wanted_of rfl rfl rfl).trans rfl) rfl ?_
    refine WL.pass ((wanted_of rfl rfl rfl).trans rfl) rfl ?_
    refine WL.pass ((wanted_of rfl rfl rfl).trans rfl) rfl ?_
    refine WL.pass ((wanted_of rfl rfl rfl).trans rfl) rfl ?_
    refine WL.pass ((wanted_of rfl rfl rfl).trans rfl) rfl ?_
    refine WL.pickT (v := .bool true) rfl rfl ?_
    refine WL.move (v := .bool true) rfl ?_
    refine WL.pass ((wanted_of rfl rfl rfl).trans rfl) rfl ?_
    refine WL.pass ((wanted_of rfl rfl rfl).trans rfl) rfl ?_
    refine WL.pass ((wanted_of rfl rfl rfl).trans rfl) rfl ?_
    refine WL.pass ((wanted_of rfl rfl rfl).trans rfl) rfl ?_
    refine WL.pass ((wanted_of rfl rfl rfl).trans rfl) rfl ?_
    refine WL.pass ((wanted_of rfl rfl rfl).trans rfl) rfl ?_
    refine WL.pickT (v := .bool true) rfl rfl ?_
    refine WL.nil ?_
    exact Jk38 true _ _ h25_0 h25_1 h25_5 rfl ((hs.mask []).pick [10, 11]) hf }
    {
    refine WL.fieldAddr (m := 5) h25_6 FA68_5 rfl ?_ (hg := (wanted_of rfl rfl (bool_tr rfl hc56)).trans rfl)
    refine WL.loadF (z := x27.HasMax) F_history_Value_HasMax hs 0 rfl 12 rfl rfl TI4 (.inr rfl) rfl rfl (fun v57 hs => ?_) (hg := (wanted_of rfl rfl (bool_tr rfl hc56)).trans rfl)
    obtain rfl := hs.bool 0 rfl
    refine WL.fieldAddr (m := 5) h25_7 FA68_5 rfl ?_ (hg := (wanted_of rfl rfl (bool_tr rfl hc56)).trans rfl)
    refine WL.loadF (z := x31.HasMax) F_history_Value_HasMax hs 1 rfl 14 rfl rfl TI4 (.inr rfl) rfl rfl (fun v58 hs => ?_) (hg := (wanted_of rfl rfl (bool_tr rfl hc56)).trans rfl)
    obtain rfl := hs.bool 0 rfl
    refine WL.neB UN4 rfl rfl ?_ (hg := (wanted_of rfl rfl (bool_tr rfl hc56)).trans rfl)
    refine WL.pickF (v := .bool (x27.HasMax != x31.HasMax)) (bool_tr rfl hc56) rfl ?_
    refine WL.move (v := .bool (x27.HasMax != x31.HasMax)) rfl ?_
    rcases iteE hf with ⟨hc59, hf⟩ | ⟨hc59, hf⟩
    {
    refine WL.pass ((wanted_of rfl rfl (bool_tr rfl hc59)).trans rfl) rfl ?_
    refine WL.pass ((wanted_of rfl rfl (bool_tr rfl hc59)).trans rfl) rfl ?_
    refine WL.pass ((wanted_of rfl rfl (bool_tr rfl hc59)).trans rfl) rfl ?_
    refine WL.pass ((wanted_of rfl rfl (bool_tr rfl hc59)).trans rfl) rfl ?_
    refine WL.pass ((wanted_of rfl rfl (bool_tr rfl hc59)).trans rfl) rfl ?_
    refine WL.pickT (v := .bool true) (bool_tr rfl hc59) rfl ?_
    refine WL.move (v := .bool true) rfl ?_
    refine WL.pass ((wanted_of rfl rfl rfl).trans rfl) rfl ?_
    refine WL.pass ((wanted_of rfl rfl rfl).trans rfl) rfl ?_
    refine WL.pass ((wanted_of rfl rfl rfl).trans rfl) rfl ?_
    refine WL.pass ((wanted_of rfl rfl rfl).trans rfl) rfl ?_
    refine WL.pass ((wanted_of rfl rfl rfl).trans rfl) rfl ?_
    refine WL.pickT (v := .bool true) rfl rfl ?_
    refine WL.move (v := .bool true) rfl ?_
    refine WL.pass ((wanted_of rfl rfl rfl).trans rfl) rfl ?_
    refine WL.pass ((wanted_of rfl rfl rfl).trans rfl) rfl ?_
    refine WL.pass ((wanted_of rfl rfl rfl).trans rfl) rfl ?_
    refine WL.pass ((wanted_of rfl rfl rfl).trans rfl) rfl ?_
    refine WL.pass ((wanted_of rfl rfl rfl).trans rfl) rfl ?_
    refine WL.pickT (v := .bool true) rfl rfl ?_
    refine WL.move (v := .bool true) rfl ?_
    refine WL.pass ((wanted_of rfl rfl rfl).trans rfl) rfl ?_
    refine WL.pass ((wanted_of rfl rfl rfl).trans rfl) rfl ?_
    refine WL.pass ((wanted_of rfl rfl rfl).trans rfl) rfl ?_
    refine WL.pass ((wanted_of rfl rfl rfl).trans rfl) rfl ?_
    refine WL.pass ((wanted_of rfl rfl rfl).trans rfl) rfl ?_
    refine WL.pass ((wanted_of rfl rfl rfl).trans rfl) rfl ?_
    refine WL.pickT (v := .bool true) rfl rfl ?_
    refine WL.nil ?_
    exact Jk38 true _ _ h25_0 h25_1 h25_5 rfl ((hs.mask []).pick [12, 13]) hf }
    {
    refine WL.fieldAddr (m := 6) h25_6 FA68_6 rfl ?_ (hg := (wanted_of rfl rfl (bool_tr rfl hc59)).trans rfl)
    refine WL.loadF (z := x27.Max) F_history_Value_Max hs 0 rfl 14 rfl rfl TI2 (.inr rfl) rfl rfl (fun v60 hs => ?_) (hg := (wanted_of rfl rfl (bool_tr rfl hc59)).trans rfl)
    obtain rfl := hs.int 0 rfl
    refine WL.fieldAddr (m := 6) h25_7 FA68_6 rfl ?_ (hg := (wanted_of rfl rfl (bool_tr rfl hc59)).trans rfl)
    refine WL.loadF (z := x31.Max) F_history_Value_Max hs 1 rfl 16 rfl rfl TI2 (.inr rfl) rfl rfl (fun v61 hs => ?_) (hg := (wanted_of rfl rfl (bool_tr rfl hc59)).trans rfl)
    obtain rfl := hs.int 0 rfl
    refine WL.bin (v := .bool (x27.Max != x31.Max)) rfl rfl (ib_neq _ _ _) ?_ (hg := (wanted_of rfl rfl (bool_tr rfl hc59)).trans rfl)
    refine WL.pickF (v := .bool (x27.Max != x31.Max)) (bool_tr rfl hc59) rfl ?_
    refine WL.move (v := .bool (x27.Max != x31.Max)) rfl ?_
    rcases iteE hf with ⟨hc62, hf⟩ | ⟨hc62, hf⟩
    {
    refine WL.pass ((wanted_of rfl rfl (bool_tr rfl hc62)).trans rfl) rfl ?_
    refine WL.pass ((wanted_of rfl rfl (bool_tr rfl hc62)).trans rfl) rfl ?_
    refine WL.pass ((wanted_of rfl rfl (bool_tr rfl hc62)).trans rfl) rfl ?_
    refine WL.pass ((wanted_of rfl rfl (bool_tr rfl hc62)).trans rfl) rfl ?_
    refine WL.pass ((wanted_of rfl rfl (bool_tr rfl hc62)).trans rfl) rfl ?_
    refine WL.pickT (v := .bool true) (bool_tr rfl hc62) rfl ?_
    refine WL.move (v := .bool true) rfl ?_
    refine WL.pass ((wanted_of rfl rfl rfl).trans rfl) rfl ?_
    refine WL.pass ((wanted_of rfl rfl rfl).trans rfl) rfl ?_
    refine WL.pass ((wanted_of rfl rfl rfl).trans rfl) rfl ?_
    refine WL.pass ((wanted_of rfl rfl rfl).trans rfl) rfl ?_
    refine WL.pass ((wanted_of rfl rfl rfl).trans rfl) rfl ?_
    refine WL.pickT (v := .bool true) rfl rfl ?_
    refine WL.move (v := .bool true) rfl ?_
    refine WL.pass ((wanted_of rfl rfl rfl).trans rfl) rfl ?_
    refine WL.pass ((wanted_of rfl rfl rfl).trans rfl) rfl ?_
    refine WL.pass ((wanted_of rfl rfl rfl).trans rfl) rfl ?_
    refine WL.pass ((wanted_of rfl rfl rfl).trans rfl) rfl ?_
    refine WL.pass ((wanted_of rfl rfl rfl).trans rfl) rfl ?_
    refine WL.pass ((wanted_of rfl rfl rfl).trans rfl) rfl ?_
    refine WL.pickT (v := .bool true) rfl rfl ?_
    refine WL.nil ?_
    exact Jk38 true _ _ h25_0 h25_1 h25_5 rfl ((hs.mask []).pick [14, 15]) hf }
    {
    refine WL.fieldAddr (m := 7) h25_6 FA68_7 rfl ?_ (hg := (wanted_of rfl rfl (bool_tr rfl hc62)).trans rfl)
    refine WL.loadF (z := x27.Sum) F_history_Value_Sum hs 0 rfl 16 rfl rfl TI2 (.inr rfl) rfl rfl (fun v63 hs => ?_) (hg := (wanted_of rfl rfl (bool_tr rfl hc62)).trans rfl)
    obtain rfl := hs.int 0 rfl
    refine WL.fieldAddr (m := 7) h25_7 FA68_7 rfl ?_ (hg := (wanted_of rfl rfl (bool_tr rfl hc62)).trans rfl)
    refine WL.loadF (z := x31.Sum) F_history_Value_Sum hs 1 rfl 18 rfl rfl TI2 (.inr rfl) rfl rfl (fun v64 hs => ?_) (hg := (wanted_of rfl rfl (bool_tr rfl hc62)).trans rfl)
    obtain rfl := hs.int 0 rfl
    refine WL.bin (v := .bool (x27.Sum != x31.Sum)) rfl rfl (ib_neq _ _ _) ?_ (hg := (wanted_of rfl rfl (bool_tr rfl hc62)).trans rfl)
    refine WL.pickF (v := .bool (x27.Sum != x31.Sum)) (bool_tr rfl hc62) rfl ?_
    refine WL.move (v := .bool (x27.Sum != x31.Sum)) rfl ?_
    rcases iteE hf with ⟨hc65, hf⟩ | ⟨hc65, hf⟩
    {
    refine WL.pass ((wanted_of rfl rfl (bool_tr rfl hc65)).trans rfl) rfl ?_
    refine WL.pass ((wanted_of rfl rfl (bool_tr rfl hc65)).trans rfl) rfl ?_
    refine WL.pass ((wanted_of rfl rfl (bool_tr rfl hc65)).trans rfl) rfl ?_
    refine WL.pass ((wanted_of rfl rfl (bool_tr rfl hc65)).trans rfl) rfl ?_
    refine WL.pass ((wanted_of rfl rfl (bool_tr rfl hc65)).trans rfl) rfl ?_
    refine WL.pickT (v := .bool true) (bool_tr rfl hc65) rfl ?_
    refine WL.move (v := .bool true) rfl ?_
    refine WL.pass ((wanted_of rfl rfl rfl).trans rfl) rfl ?_
    refine WL.pass ((wanted_of rfl rfl rfl).trans rfl) rfl ?_
    refine WL.pass ((wanted_of rfl rfl rfl).trans rfl) rfl ?_
    refine WL.pass ((wanted_of rfl rfl rfl).trans rfl) rfl ?_
    refine WL.pass ((wanted_of rfl rfl rfl).trans rfl) rfl ?_
    refine WL.pass ((wanted_of rfl rfl rfl).trans rfl) rfl ?_
    refine WL.pickT (v := .bool true) rfl rfl ?_
    refine WL.nil ?_
    exact Jk38 true _ _ h25_0 h25_1 h25_5 rfl ((hs.mask []).pick [16, 17]) hf }
    {
    refine WL.fieldAddr (m := 9) h25_6 FA68_9 rfl ?_ (hg := (wanted_of rfl rfl (bool_tr rfl hc65)).trans rfl)
    refine WL.loadF (z := x27.Flag) F_history_Value_Flag hs 0 rfl 18 rfl rfl TI4 (.inr rfl) rfl rfl (fun v66 hs => ?_) (hg := (wanted_of rfl rfl (bool_tr rfl hc65)).trans rfl)
    obtain rfl := hs.bool 0 rfl
    refine WL.fieldAddr (m := 9) h25_7 FA68_9 rfl ?_ (hg := (wanted_of rfl rfl (bool_tr rfl hc65)).trans rfl)
    refine WL.loadF (z := x31.Flag) F_history_Value_Flag hs 1 rfl 20 rfl rfl TI4 (.inr rfl) rfl rfl (fun v67 hs => ?_) (hg := (wanted_of rfl rfl (bool_tr rfl hc65)).trans rfl)
    obtain rfl := hs.bool 0 rfl
    refine WL.neB UN4 rfl rfl ?_ (hg := (wanted_of rfl rfl (bool_tr rfl hc65)).trans rfl)
    refine WL.pickF (v := .bool (x27.Flag != x31.Flag)) (bool_tr rfl hc65) rfl ?_
    refine WL.move (v := .bool (x27.Flag != x31.Flag)) rfl ?_
    rcases iteE hf with ⟨hc68, hf⟩ | ⟨hc68, hf⟩
    {
    refine WL.pass ((wanted_of rfl rfl (bool_tr rfl hc68)).trans rfl) rfl ?_
    refine WL.pass ((wanted_of rfl rfl (bool_tr rfl hc68)).trans rfl) rfl ?_
    refine WL.pass ((wanted_of rfl rfl (bool_tr rfl hc68)).trans rfl) rfl ?_
    refine WL.pass ((wanted_of rfl rfl (bool_tr rfl hc68)).trans rfl) rfl ?_
    refine WL.pass ((wanted_of rfl rfl (bool_tr rfl hc68)).trans rfl) rfl ?_
    refine WL.pass ((wanted_of rfl rfl (bool_tr rfl hc68)).trans rfl) rfl ?_
    refine WL.pickT (v := .bool true) (bool_tr rfl hc68) rfl ?_
    refine WL.nil ?_
    exact Jk38 true _ _ h25_0 h25_1 h25_5 rfl ((hs.mask []).pick [18, 19]) hf }
    {
    refine WL.fieldAddr (m := 8) h25_6 FA68_8 rfl ?_ (hg := (wanted_of rfl rfl (bool_tr rfl hc68)).trans rfl)
    refine WL.loadF (z := x27.Elems) F_history_Value_Elems hs 0 rfl 20 rfl rfl TI59 (.inr rfl) rfl rfl (fun v69 hs => ?_) (hg := (wanted_of rfl rfl (bool_tr rfl hc68)).trans rfl)
    obtain ⟨a70, c71, rfl⟩ := hs.slice 0 rfl
    refine WL.fieldAddr (m := 8) h25_7 FA68_8 rfl ?_ (hg := (wanted_of rfl rfl (bool_tr rfl hc68)).trans rfl)
    refine WL.loadF (z := x31.Elems) F_history_Value_Elems hs 1 rfl 22 rfl rfl TI59 (.inr rfl) rfl rfl (fun v72 hs => ?_) (hg := (wanted_of rfl rfl (bool_tr rfl hc68)).trans rfl)
    obtain ⟨a73, c74, rfl⟩ := hs.slice 0 rfl
    obtain ⟨x75, hxx75, hf⟩ := bindE hf
    refine WL.call (vs := [.slice a70 (x27.Elems).length c71, .slice a73 (x31.Elems).length c74]) hs FN34 ⟨rfl, ⟨rfl, trivial⟩⟩ (fun ok hA => esref32_EqualStrings.calls (x1 := x27.Elems) (x4 := x31.Elems) hxx75 (hA.get 1 rfl) (hA.get 0 rfl)) ?_ (hg := (wanted_of rfl rfl (bool_tr rfl hc68)).trans rfl)
    rintro _ w hs
    refine WL.not rfl ?_ (hg := (wanted_of rfl rfl (bool_tr rfl hc68)).trans rfl)
    refine WL.pickF (v := .bool (!x75)) (bool_tr rfl hc68) rfl ?_
    refine WL.nil ?_
    exact Jk38 (!x75) _ _ h25_0 h25_1 h25_5 rfl ((hs.mask []).pick [20, 21]) hf } } } } } } } } }
  obtain ⟨x76, hxx76, hf⟩ := bindE hf
  obtain ⟨x81, hxx81, hf⟩ := bindE hf
  refine W.anyU (by kernel_rfl) 11 1 [true, true, true, true, true, true, true, true, true, true, true, false] rfl rfl (poAt [pv (.slice a2 x1.length c3), pv (.int .i64 x18), pq (fun y : Addr => .pointer (some y)) (fun v => [pl t_history_Value x76 (adOf v)]) (fun v => []), pq (fun y : List Value => .agg y.toArray) (fun v => [vl t_history_Value x76 v]) (fun v => []), pv (.slice a5 x4.length c6), pv (.int .i64 x18), pq (fun y : Addr => .pointer (some y)) (fun v => [pl t_history_Value x81 (adOf v)]) (fun v => []), pq (fun y : List Value => .agg y.toArray) (fun v => [vl t_history_Value x81 v]) (fun v => []), pq (fun y : Nat => .pointer (some ⟨y, 0, none⟩)) (fun v => []) (fun v => [blk (gOf v) 68 ([bstr [], bstr [], .bool false, .int .i64 0, bstr [], .bool false, .int .i64 0, .int .i64 0, .slice none 0 0, .bool false])]), pq (fun y : Nat => .pointer (some ⟨y, 0, none⟩)) (fun v => []) (fun v => [blk (gOf v) 68 ([bstr [], bstr [], .bool false, .int .i64 0, bstr [], .bool false, .int .i64 0, .int .i64 0, .slice none 0 0, .bool false])]), pT]) (tkAt [[], [], [], [], [], [], [], [], [], [], [8]]) (tlAt [fun _ => [], fun _ => [], fun _ => [], fun _ => [], fun _ => [], fun _ => [], fun _ => [], fun _ => [], fun v => [tbx t_history_Value x76 (gOf v) 68], fun _ => [], fun _ => []]) (Λ := []) hs (by kernel_rfl) (by kernel_rfl) (by kernel_rfl) (by kernel_rfl) ⟨⟨⟨⟨⟨⟨⟨⟨⟨⟨⟨trivial, ?_⟩, ?_⟩, ?_⟩, ?_⟩, ?_⟩, ?_⟩, ?_⟩, ?_⟩, ?_⟩, ?_⟩, ?_⟩ ?_
  {
  intro ρ w Γx Λx hs hu hu2 hp
  refine WL.move (v := .slice a2 x1.length c3) ((hu 0 rfl).trans h17_0) ?_
  exact WL.nil ⟨rfl, _, rfl, rfl, hs.cutG 0 0⟩ }
  {
  intro ρ w Γx Λx hs hu hu2 hp
  refine WL.move (v := .int .i64 x18) ((hu 5 rfl).trans h17_5) ?_
  exact WL.nil ⟨rfl, _, rfl, rfl, hs.cutG 0 0⟩ }
  {
  intro ρ w Γx Λx hs hu hu2 hp
  have e88 : ρ 19 = .slice a2 x1.length c3 := (hp 0 rfl).1
  have e89 : ρ 20 = .int .i64 x18 := (hp 1 rfl).1
  refine WL.indexAddr hs (Γx.length + 0) (getApp rfl) UN31 TI68 e88 e89 hxx76 (fun ad77 hs => ?_)
  have hs := hs.add (it := pl t_history_Value x76 ad77) fun ok hA => hA.get 0 rfl
  exact WL.nil ⟨rfl, _, rfl, ⟨ad77, rfl⟩, hs.cutG 1 1⟩ }
  {
  intro ρ w Γx Λx hs hu hu2 hp
  obtain ⟨⟨ad90, e91r⟩, hm92⟩ := hp 2 rfl
  have e91 : ρ 21 = .pointer (some ad90) := e91r
  rw [e91r] at hm92
  have hs := hs.memo1 (it := pl t_history_Value x76 ad90) (List.mem_append.2 (.inl (hm92 _ (List.mem_of_getElem? (i := 0) rfl))))
  refine WL.loadP hs 0 rfl TI68 (.inl rfl) e91 (fun v78 hs => ?_)
  obtain ⟨cs79, hl80, rfl⟩ := hs.aggv (n := 10) 0 rfl rfl rfl
  have hs := hs.add (it := vl t_history_Value x76 (.agg cs79.toArray)) fun ok hA => hA.get 0 rfl
  exact WL.nil ⟨rfl, _, rfl, ⟨cs79, rfl⟩, hs.cutG 1 2⟩ }
  {
  intro ρ w Γx Λx hs hu hu2 hp
  refine WL.move (v := .slice a5 x4.length c6) ((hu 1 rfl).trans h17_1) ?_
  exact WL.nil ⟨rfl, _, rfl, rfl, hs.cutG 0 0⟩ }
  {
  intro ρ w Γx Λx hs hu hu2 hp
  refine WL.move (v := .int .i64 x18) ((hu 5 rfl).trans h17_5) ?_
  exact WL.nil ⟨rfl, _, rfl, rfl, hs.cutG 0 0⟩ }
  {
  intro ρ w Γx Λx hs hu hu2 hp
  have e93 : ρ 23 = .slice a5 x4.length c6 := (hp 4 rfl).1
  have e94 : ρ 24 = .int .i64 x18 := (hp 5 rfl).1
  refine WL.indexAddr hs (Γx.length + 1) (getApp rfl) UN31 TI68 e93 e94 hxx81 (fun ad82 hs => ?_)
  have hs := hs.add (it := pl t_history_Value x81 ad82) fun ok hA => hA.get 0 rfl
  exact WL.nil ⟨rfl, _, rfl, ⟨ad82, rfl⟩, hs.cutG 1 1⟩ }
  {
  intro ρ w Γx Λx hs hu hu2 hp
  obtain ⟨⟨ad95, e96r⟩, hm97⟩ := hp 6 rfl
  have e96 : ρ 25 = .pointer (some ad95) := e96r
  rw [e96r] at hm97
  have hs := hs.memo1 (it := pl t_history_Value x81 ad95) (List.mem_append.2 (.inl (hm97 _ (List.mem_of_getElem? (i := 0) rfl))))
  refine WL.loadP hs 0 rfl TI68 (.inl rfl) e96 (fun v83 hs => ?_)
  obtain ⟨cs84, hl85, rfl⟩ := hs.aggv (n := 10) 0 rfl rfl rfl
  have hs := hs.add (it := vl t_history_Value x81 (.agg cs84.toArray)) fun ok hA => hA.get 0 rfl
  exact WL.nil ⟨rfl, _, rfl, ⟨cs84, rfl⟩, hs.cutG 1 2⟩ }
  {
  intro ρ w Γx Λx hs hu hu2 hp
  refine WL.alloc hs ZV68 (fun g86 w hs => ?_)
  exact WL.nil ⟨rfl, _, rfl, ⟨g86, rfl⟩, hs.cutG 0 0⟩ }
  {
  intro ρ w Γx Λx hs hu hu2 hp
  refine WL.alloc hs ZV68 (fun g87 w hs => ?_)
  exact WL.nil ⟨rfl, _, rfl, ⟨g87, rfl⟩, hs.cutG 0 0⟩ }
  {
  intro ρ w Γx Λx hs hu hu2 hp
  have hs : St ok (bz w0) w (Γx ++ [vl (tSlice t_history_Value) x1 (.slice a2 x1.length c3), vl (tSlice t_history_Value) x4 (.slice a5 x4.length c6)]) (Λx ++ ([blk (gOf ((ρ 6))) 68 ([bstr [], bstr [], .bool false, .int .i64 0, bstr [], .bool false, .int .i64 0, .int .i64 0, .slice none 0 0, .bool false])] ++ [])) := hs
  have e98 : ρ 6 = .pointer (some ⟨gOf (ρ 6), 0, none⟩) := by obtain ⟨⟨y, hy⟩, _⟩ := hp 8 rfl; have hy : ρ 6 = .pointer (some ⟨y, 0, none⟩) := hy; rw [hy]; rfl
  obtain ⟨⟨cs99, e101r⟩, hm102⟩ := hp 3 rfl
  have e101 : ρ 22 = .agg cs99.toArray := e101r
  rw [e101r] at hm102
  have hs := hs.memo1 (it := vl t_history_Value x76 (.agg cs99.toArray)) (List.mem_append.2 (.inl (hm102 _ (List.mem_of_getElem? (i := 0) rfl))))
  have hl100 := hs.agglen (n := 10) 0 rfl rfl rfl
  refine WL.storeAll (vs := cs99) hs (Λx.length + 0) (getApp rfl) TI68 e98 e101 rfl hl100 (hs.ones 0 rfl rfl) rfl (fun w hs => ?_)
  have hs := hs.backP
  have hs := hs.toT (A := t_history_Value) 0 rfl fun ok hA => (R_agg (hA.get 0 rfl) rfl)
  exact WL.nil ⟨rfl, _, rfl, trivial, hs.cutG 0 1⟩ }
  {
  intro ρ w hs hu103 hp
  obtain ⟨⟨⟨⟨⟨⟨⟨⟨⟨⟨⟨_, hp0_⟩, hp1_⟩, hp2_⟩, hp3_⟩, hp4_⟩, hp5_⟩, hp6_⟩, hp7_⟩, hp8_⟩, hp9_⟩, hp10_⟩ := hp
  have hs : St ok (bz w0) w [vl t_history_Value x81 (ρ 26), pl t_history_Value x81 (adOf (ρ 25)), vl t_history_Value x76 (ρ 22), pl t_history_Value x76 (adOf (ρ 21)), vl (tSlice t_history_Value) x1 (.slice a2 x1.length c3), vl (tSlice t_history_Value) x4 (.slice a5 x4.length c6)] [blk (gOf ((ρ 7))) 68 ([bstr [], bstr [], .bool false, .int .i64 0, bstr [], .bool false, .int .i64 0, .int .i64 0, .slice none 0 0, .bool false]), tbx t_history_Value x76 (gOf (ρ 6)) 68] := hs
  obtain ⟨g104, e105⟩ := hp9_
  have e105 : ρ 7 = .pointer (some ⟨g104, 0, none⟩) := e105
  try rw [e105] at hs
  obtain ⟨g106, e107⟩ := hp8_
  have e107 : ρ 6 = .pointer (some ⟨g106, 0, none⟩) := e107
  try rw [e107] at hs
  obtain ⟨cs108, e110⟩ := hp7_
  have e110 : ρ 26 = .agg cs108.toArray := e110
  try rw [e110] at hs
  obtain ⟨ad111, e112⟩ := hp6_
  have e112 : ρ 25 = .pointer (some ad111) := e112
  try rw [e112] at hs
  have e113 : ρ 24 = .int .i64 x18 := hp5_
  have e114 : ρ 23 = .slice a5 x4.length c6 := hp4_
  obtain ⟨cs115, e117⟩ := hp3_
  have e117 : ρ 22 = .agg cs115.toArray := e117
  try rw [e117] at hs
  obtain ⟨ad118, e119⟩ := hp2_
  have e119 : ρ 21 = .pointer (some ad118) := e119
  try rw [e119] at hs
  have e120 : ρ 20 = .int .i64 x18 := hp1_
  have e121 : ρ 19 = .slice a2 x1.length c3 := hp0_
  have hl116 := hs.agglen (n := 10) 2 rfl rfl rfl
  have hl109 := hs.agglen (n := 10) 0 rfl rfl rfl
  obtain ⟨cs122, hl123, hs⟩ := hs.ofT (n := 10) 1 rfl rfl rfl
  refine WA.step [11] (by kernel_rfl) (by simp) ⟨?_, trivial⟩
  refine WL.storeAll (vs := cs108) hs 0 rfl TI68 e105 e110 rfl hl109 (hs.ones 1 rfl rfl) rfl (fun w hs => ?_)
  refine WL.nil ⟨rfl, _, rfl, ?_⟩
  refine WA.done (by kernel_rfl) ?_
  have hs := hs.front 0 rfl
  have hs := hs.front 1 rfl
  exact Jk34 x76 x81 g106 cs122 g104 cs108 _ _ hl123 hl109 ((hu103 0 rfl).trans h17_0) ((hu103 1 rfl).trans h17_1) ((hu103 5 rfl).trans h17_5) e107 e105 ((hs.mask [true, true]).pick [5, 6, 0, 1]) hf } }
  {
  refine W.cond_false (bool_tr rfl hc22) ?_
  refine W.exit ?_
  have hr := Option.some.inj hf; subst hr
  have hr := hbbs19 _ rfl; subst hr
  have hf := hfs19
  exact Jk14  _ _  ((hs.mask []).pick []) hf } }
theorem esref39_EqualOperation.calls {ok : Nat → Prop} {w0 : World} {x1 : history_Operation} {x5 : history_Operation} {v2 : Value} {v6 : Value} {r : Bool} (hf : esref39_EqualOperation x1 x5 = some r) (i0 : (vl t_history_Operation x1 v2).holds ok w0) (i1 : (vl t_history_Operation x5 v6).holds ok w0) :
    Calls Try.prog 21 #[v2, v6] w0 fun e w' => ∃ v, e = .returned v ∧ ∃ y : Unit, v = .bool r ∧ St ok (bz w0) w' [] [] := by
  unfold esref39_EqualOperation at hf
  refine calls_of_W (fn := Try.f21) (N := 67) Try.func21 rfl Try.ntmps21 rfl ?_
  have hs : St ok (bz w0) w0 [vl t_history_Operation x1 v2, vl t_history_Operation x5 v6] [] := St.init (All.cons i0 (All.cons i1 All.nil))
  clear i0 i1
  obtain ⟨cs3, hl4, rfl⟩ := hs.aggv (n := 6) 0 rfl rfl rfl
  obtain ⟨cs7, hl8, rfl⟩ := hs.aggv (n := 6) 1 rfl rfl rfl
  refine W.seqK fun K9 hK9 => ?_
  refine W.region ?_
  refine WL.box (vs := cs3) hs rfl rfl (fun g10 w hs => ?_)
  refine WL.box (vs := cs7) hs rfl rfl (fun g11 w hs => ?_)
  refine WL.assign (v := .bool false) rfl ?_
  refine WL.nil ?_
  refine hK9 _ _ ?_
  refine W.seqK fun K12 hK12 => ?_
  refine W.seqK fun K13 hK13 => ?_
  have Jk16 : ∀ (x15 : Bool) (ρ : Env) (w : World), ρ 2 = .pointer (some ⟨g10, 0, none⟩) → ρ 3 = .pointer (some ⟨g11, 0, none⟩) → ρ 48 = .bool x15 → St ok (bz w0) w [vl t_history_Operation x5 (.agg cs7.toArray), vl t_history_Operation x1 (.agg cs3.toArray)] [blk g11 35 cs7, blk g10 35 cs3] → esref39_EqualOperation.j2 x1 x5 x15 = some r → K13 ρ w := by
    intro x15 ρ w h14_2 h14_3 h14_48 hs hf
    refine hK13 _ _ ?_
    unfold esref39_EqualOperation.j2 at hf
    rcases iteE hf with ⟨hc17, hf⟩ | ⟨hc17, hf⟩
    {
    refine W.cond_true (bool_tr h14_48 hc17) ?_
    refine W.seqK fun K18 hK18 => ?_
    refine W.region ?_
    refine WL.assign (v := .bool false) rfl ?_
    refine WL.nil ?_
    refine hK18 _ _ ?_
    refine W.ret ?_
    have hr := Option.some.inj hf; subst hr
    exact ⟨_, resOk_one rfl rfl, (), rfl, (hs.mask []).pick []⟩ }
    {
    refine W.cond_false (bool_tr h14_48 hc17) ?_
    refine W.skip ?_
    refine hK12 _ _ ?_
    refine W.seqK fun K19 hK19 => ?_
    have Jk21 : ∀  (ρ : Env) (w : World), St ok (bz w0) w [] [] → esref39_EqualOperation.j1 = some r → K19 ρ w := by
      intro  ρ w  hs hf
      refine hK19 _ _ ?_
      unfold esref39_EqualOperation.j1 at hf
      refine W.seqK fun K22 hK22 => ?_
      refine W.region ?_
      refine WL.assign (v := .bool true) rfl ?_
      refine WL.nil ?_
      refine hK22 _ _ ?_
      refine W.ret ?_
      have hr := Option.some.inj hf; subst hr
      exact ⟨_, resOk_one rfl rfl, (), rfl, (hs.mask []).pick []⟩
    refine W.seqK fun K23 hK23 => ?_
    refine W.region ?_
    refine WL.assign (v := .int .i64 0) rfl ?_
    refine WL.nil ?_
    refine hK23 _ _ ?_
    refine W.block ?_
    obtain ⟨bs26, hbs26, hfs26⟩ := bindE hf
    refine W.loop hbs26 (fun s ρ w => match s with | x25 => ρ 2 = .pointer (some ⟨g10, 0, none⟩) ∧ ρ 3 = .pointer (some ⟨g11, 0, none⟩) ∧ ρ 5 = .int .i64 x25 ∧ St ok (bz w0) w [vl t_history_Operation x5 (.agg cs7.toArray), vl t_history_Operation x1 (.agg cs3.toArray)] [blk g11 35 cs7, blk g10 35 cs3]) ⟨h14_2, h14_3, rfl, (hs.mask [true, true]).pick [0, 1]⟩ ?_
    intro x25 ρ w os26 hI hf hbbs26
    obtain ⟨h24_2, h24_3, h24_5, hs⟩ := hI
    unfold esref39_EqualOperation.l1 at hf
    refine W.seqK fun K27 hK27 => ?_
    refine W.seqK fun K28 hK28 => ?_
    refine W.region ?_
    refine WL.move (v := .int .i64 x25) h24_5 ?_
    refine WL.fieldAddr (m := 2) h24_2 FA35_2 rfl ?_
    refine WL.loadF (z := x1.Effects) F_history_Operation_Effects hs 1 rfl 1 rfl rfl TI30 (.inr rfl) rfl rfl (fun v29 hs => ?_)
    obtain ⟨a30, c31, rfl⟩ := hs.slice 0 rfl
    refine WL.len (v := .slice a30 (x1.Effects).length c31) rfl (len_slice UN30) ?_
    refine WL.bin (v := .bool (decide (x25 < ((x1.Effects).length : Int)))) rfl rfl (ib_lss _ _ _) ?_
    refine WL.nil ?_
    refine hK28 _ _ ?_
    rcases iteE hf with ⟨hc32, hf⟩ | ⟨hc32, hf⟩
    {
    refine W.cond_true (bool_tr rfl hc32) ?_
    refine W.skip ?_
    refine hK27 _ _ ?_
    refine W.seqK fun K33 hK33 => ?_
    refine W.block ?_
    refine W.seqK fun K34 hK34 => ?_
    obtain ⟨x38, hxx38, hf⟩ := bindE hf
    obtain ⟨x46, hxx46, hf⟩ := bindE hf
    refine W.any (by kernel_rfl) 11 0 [true, true, true, true, true, true, true, true, true, true, true] rfl rfl (poAt [pv (.pointer (some ⟨g10, 2, none⟩)), pq (fun y : (Option Addr × Nat) => .slice y.1 (x1.Effects).length y.2) (fun v => [vl (tSlice t_api_Effect) x1.Effects v]) (fun v => []), pv (.int .i64 x25), pq (fun y : Addr => .pointer (some y)) (fun v => [pl t_api_Effect x38 (adOf v)]) (fun v => []), pq (fun y : List Value => .agg y.toArray) (fun v => [vl t_api_Effect x38 v]) (fun v => []), pv (.pointer (some ⟨g11, 2, none⟩)), pq (fun y : (Option Addr × Nat) => .slice y.1 (x5.Effects).length y.2) (fun v => [vl (tSlice t_api_Effect) x5.Effects v]) (fun v => []), pv (.int .i64 x25), pq (fun y : Addr => .pointer (some y)) (fun v => [pl t_api_Effect x46 (adOf v)]) (fun v => []), pq (fun y : List Value => .agg y.toArray) (fun v => [vl t_api_Effect x46 v]) (fun v => []), pv (.bool (!decide ((⟨x38.Kind, x38.Object, x38.Field, x38.N, x38.S⟩ : api_Effect) = (⟨x46.Kind, x46.Object, x46.Field, x46.N, x46.S⟩ : api_Effect))))]) (Λ := [blk g11 35 cs7, blk g10 35 cs3]) hs (by kernel_rfl) (by kernel_rfl) (by kernel_rfl) ⟨⟨⟨⟨⟨⟨⟨⟨⟨⟨⟨trivial, ?_⟩, ?_⟩, ?_⟩, ?_⟩, ?_⟩, ?_⟩, ?_⟩, ?_⟩, ?_⟩, ?_⟩, ?_⟩ ?_
    {
    intro ρ w Γx Λx hs hu hp
    refine WL.fieldAddr (m := 2) ((hu 2 rfl).trans h24_2) FA35_2 rfl ?_
    exact WL.nil ⟨rfl, _, rfl, rfl, hs.cutG 0 0⟩ }
    {
    intro ρ w Γx Λx hs hu hp
    have e51 : ρ 56 = .pointer (some ⟨g10, 2, none⟩) := (hp 0 rfl).1
    refine WL.loadF (z := x1.Effects) F_history_Operation_Effects hs (Λx.length + 1) (getApp rfl) (Γx.length + 2) (getApp rfl) rfl TI30 (.inr rfl) e51 rfl (fun v35 hs => ?_)
    obtain ⟨a36, c37, rfl⟩ := hs.slice 0 rfl
    have hs := hs.add (it := vl (tSlice t_api_Effect) x1.Effects (.slice a36 (x1.Effects).length c37)) fun ok hA => hA.get 0 rfl
    exact WL.nil ⟨rfl, _, rfl, ⟨(a36, c37), rfl⟩, hs.cutG 1 1⟩ }
    {
    intro ρ w Γx Λx hs hu hp
    refine WL.move (v := .int .i64 x25) ((hu 5 rfl).trans h24_5) ?_
    exact WL.nil ⟨rfl, _, rfl, rfl, hs.cutG 0 0⟩ }
    {
    intro ρ w Γx Λx hs hu hp
    obtain ⟨⟨⟨a52, c53⟩, e54r⟩, hm55⟩ := hp 1 rfl
    have e54 : ρ 57 = .slice a52 (x1.Effects).length c53 := e54r
    rw [e54r] at hm55
    have hs := hs.memo1 (it := vl (tSlice t_api_Effect) x1.Effects (.slice a52 (x1.Effects).length c53)) (List.mem_append.2 (.inl (hm55 _ (List.mem_of_getElem? (i := 0) rfl))))
    have e56 : ρ 58 = .int .i64 x25 := (hp 2 rfl).1
    refine WL.indexAddr hs 0 rfl UN30 TI72 e54 e56 hxx38 (fun ad39 hs => ?_)
    have hs := hs.add (it := pl t_api_Effect x38 ad39) fun ok hA => hA.get 0 rfl
    exact WL.nil ⟨rfl, _, rfl, ⟨ad39, rfl⟩, hs.cutG 1 2⟩ }
    {
    intro ρ w Γx Λx hs hu hp
    obtain ⟨⟨ad57, e58r⟩, hm59⟩ := hp 3 rfl
    have e58 : ρ 59 = .pointer (some ad57) := e58r
    rw [e58r] at hm59
    have hs := hs.memo1 (it := pl t_api_Effect x38 ad57) (List.mem_append.2 (.inl (hm59 _ (List.mem_of_getElem? (i := 0) rfl))))
    refine WL.loadP hs 0 rfl TI72 (.inl rfl) e58 (fun v40 hs => ?_)
    obtain ⟨cs41, hl42, rfl⟩ := hs.aggv (n := 5) 0 rfl rfl rfl
    have hs := hs.add (it := vl t_api_Effect x38 (.agg cs41.toArray)) fun ok hA => hA.get 0 rfl
    exact WL.nil ⟨rfl, _, rfl, ⟨cs41, rfl⟩, hs.cutG 1 2⟩ }
    {
    intro ρ w Γx Λx hs hu hp
    refine WL.fieldAddr (m := 2) ((hu 3 rfl).trans h24_3) FA35_2 rfl ?_
    exact WL.nil ⟨rfl, _, rfl, rfl, hs.cutG 0 0⟩ }
    {
    intro ρ w Γx Λx hs hu hp
    have e60 : ρ 61 = .pointer (some ⟨g11, 2, none⟩) := (hp 5 rfl).1
    refine WL.loadF (z := x5.Effects) F_history_Operation_Effects hs (Λx.length + 0) (getApp rfl) (Γx.length + 1) (getApp rfl) rfl TI30 (.inr rfl) e60 rfl (fun v43 hs => ?_)
    obtain ⟨a44, c45, rfl⟩ := hs.slice 0 rfl
    have hs := hs.add (it := vl (tSlice t_api_Effect) x5.Effects (.slice a44 (x5.Effects).length c45)) fun ok hA => hA.get 0 rfl
    exact WL.nil ⟨rfl, _, rfl, ⟨(a44, c45), rfl⟩, hs.cutG 1 1⟩ }
    {
    intro ρ w Γx Λx hs hu hp
    refine WL.move (v := .int .i64 x25) ((hu 5 rfl).trans h24_5) ?_
    exact WL.nil ⟨rfl, _, rfl, rfl, hs.cutG 0 0⟩ }
    {
    intro ρ w Γx Λx hs hu hp
    obtain ⟨⟨⟨a61, c62⟩, e63r⟩, hm64⟩ := hp 6 rfl
    have e63 : ρ 62 = .slice a61 (x5.Effects).length c62 := e63r
    rw [e63r] at hm64
    have hs := hs.memo1 (it := vl (tSlice t_api_Effect) x5.Effects (.slice a61 (x5.Effects).length c62)) (List.mem_append.2 (.inl (hm64 _ (List.mem_of_getElem? (i := 0) rfl))))
    have e65 : ρ 63 = .int .i64 x25 := (hp 7 rfl).1
    refine WL.indexAddr hs 0 rfl UN30 TI72 e63 e65 hxx46 (fun ad47 hs => ?_)
    have hs := hs.add (it := pl t_api_Effect x46 ad47) fun ok hA => hA.get 0 rfl
    exact WL.nil ⟨rfl, _, rfl, ⟨ad47, rfl⟩, hs.cutG 1 2⟩ }
    {
    intro ρ w Γx Λx hs hu hp
    obtain ⟨⟨ad66, e67r⟩, hm68⟩ := hp 8 rfl
    have e67 : ρ 64 = .pointer (some ad66) := e67r
    rw [e67r] at hm68
    have hs := hs.memo1 (it := pl t_api_Effect x46 ad66) (List.mem_append.2 (.inl (hm68 _ (List.mem_of_getElem? (i := 0) rfl))))
    refine WL.loadP hs 0 rfl TI72 (.inl rfl) e67 (fun v48 hs => ?_)
    obtain ⟨cs49, hl50, rfl⟩ := hs.aggv (n := 5) 0 rfl rfl rfl
    have hs := hs.add (it := vl t_api_Effect x46 (.agg cs49.toArray)) fun ok hA => hA.get 0 rfl
    exact WL.nil ⟨rfl, _, rfl, ⟨cs49, rfl⟩, hs.cutG 1 2⟩ }
    {
    intro ρ w Γx Λx hs hu hp
    obtain ⟨⟨cs69, e71r⟩, hm72⟩ := hp 4 rfl
    have e71 : ρ 60 = .agg cs69.toArray := e71r
    rw [e71r] at hm72
    have hs := hs.memo1 (it := vl t_api_Effect x38 (.agg cs69.toArray)) (List.mem_append.2 (.inl (hm72 _ (List.mem_of_getElem? (i := 0) rfl))))
    have hl70 := hs.agglen (n := 5) 0 rfl rfl rfl
    obtain ⟨⟨cs73, e75r⟩, hm76⟩ := hp 9 rfl
    have e75 : ρ 65 = .agg cs73.toArray := e75r
    rw [e75r] at hm76
    have hs := hs.memo1 (it := vl t_api_Effect x46 (.agg cs73.toArray)) (List.mem_cons_of_mem _ (List.mem_append.2 (.inl (hm76 _ (List.mem_of_getElem? (i := 0) rfl)))))
    have hl74 := hs.agglen (n := 5) 0 rfl rfl rfl
    obtain rfl := open_api_Effect hs 1 rfl
    obtain rfl := open_api_Effect hs 0 rfl
    refine WL.eqA e71 e75 EG72 (NQ72 (⟨x38.Kind, x38.Object, x38.Field, x38.N, x38.S⟩ : api_Effect) (⟨x46.Kind, x46.Object, x46.Field, x46.N, x46.S⟩ : api_Effect)) ?_
    exact WL.nil ⟨rfl, _, rfl, rfl, hs.cutG 0 2⟩ }
    {
    intro ρ w hs hu77 hp
    obtain ⟨⟨⟨⟨⟨⟨⟨⟨⟨⟨⟨_, hp0_⟩, hp1_⟩, hp2_⟩, hp3_⟩, hp4_⟩, hp5_⟩, hp6_⟩, hp7_⟩, hp8_⟩, hp9_⟩, hp10_⟩ := hp
    have hs : St ok (bz w0) w [vl t_api_Effect x46 (ρ 65), pl t_api_Effect x46 (adOf (ρ 64)), vl (tSlice t_api_Effect) x5.Effects (ρ 62), vl t_api_Effect x38 (ρ 60), pl t_api_Effect x38 (adOf (ρ 59)), vl (tSlice t_api_Effect) x1.Effects (ρ 57), vl (tSlice t_api_Effect) x1.Effects (.slice a30 (x1.Effects).length c31), vl t_history_Operation x5 (.agg cs7.toArray), vl t_history_Operation x1 (.agg cs3.toArray)] [blk g11 35 cs7, blk g10 35 cs3] := hs
    have e78 : ρ 66 = .bool (!decide ((⟨x38.Kind, x38.Object, x38.Field, x38.N, x38.S⟩ : api_Effect) = (⟨x46.Kind, x46.Object, x46.Field, x46.N, x46.S⟩ : api_Effect))) := hp10_
    obtain ⟨cs79, e81⟩ := hp9_
    have e81 : ρ 65 = .agg cs79.toArray := e81
    try rw [e81] at hs
    obtain ⟨ad82, e83⟩ := hp8_
    have e83 : ρ 64 = .pointer (some ad82) := e83
    try rw [e83] at hs
    have e84 : ρ 63 = .int .i64 x25 := hp7_
    obtain ⟨⟨a85, c86⟩, e87⟩ := hp6_
    have e87 : ρ 62 = .slice a85 (x5.Effects).length c86 := e87
    try rw [e87] at hs
    have e88 : ρ 61 = .pointer (some ⟨g11, 2, none⟩) := hp5_
    obtain ⟨cs89, e91⟩ := hp4_
    have e91 : ρ 60 = .agg cs89.toArray := e91
    try rw [e91] at hs
    obtain ⟨ad92, e93⟩ := hp3_
    have e93 : ρ 59 = .pointer (some ad92) := e93
    try rw [e93] at hs
    have e94 : ρ 58 = .int .i64 x25 := hp2_
    obtain ⟨⟨a95, c96⟩, e97⟩ := hp1_
    have e97 : ρ 57 = .slice a95 (x1.Effects).length c96 := e97
    try rw [e97] at hs
    have e98 : ρ 56 = .pointer (some ⟨g10, 2, none⟩) := hp0_
    have hl90 := hs.agglen (n := 5) 3 rfl rfl rfl
    have hl80 := hs.agglen (n := 5) 0 rfl rfl rfl
    refine WA.done (by kernel_rfl) ?_
    refine hK34 _ _ ?_
    rcases iteE hf with ⟨hc99, hf⟩ | ⟨hc99, hf⟩
    {
    refine W.cond_true (bool_tr e78 hc99) ?_
    refine W.seqK fun K100 hK100 => ?_
    refine W.region ?_
    refine WL.assign (v := .bool false) rfl ?_
    refine WL.nil ?_
    refine hK100 _ _ ?_
    refine W.ret ?_
    have hr := Option.some.inj hf; subst hr
    have hr := hbbs26 _ rfl; subst hr
    have hf := hfs26
    have hr := Option.some.inj hf; subst hr
    exact ⟨_, resOk_one rfl rfl, (), rfl, (hs.mask []).pick []⟩ }
    {
    refine W.cond_false (bool_tr e78 hc99) ?_
    refine W.skip ?_
    refine hK33 _ _ ?_
    refine W.region ?_
    refine WL.move (v := .int .i64 x25) ((hu77 5 rfl).trans h24_5) ?_
    obtain ⟨x101, ex101, hf⟩ := letE hf
    refine WL.bin (v := .int .i64 x101) rfl rfl (ib_as ex101 (ib_add _ _ _)) ?_
    refine WL.assign (v := .int .i64 x101) rfl ?_
    refine WL.nil ?_
    exact ⟨_, (Option.some.inj hf).symm, ((hu77 2 rfl).trans h24_2), ((hu77 3 rfl).trans h24_3), rfl, (hs.mask [true, true]).pick [7, 8]⟩ } } }
    {
    refine W.cond_false (bool_tr rfl hc32) ?_
    refine W.exit ?_
    have hr := Option.some.inj hf; subst hr
    have hr := hbbs26 _ rfl; subst hr
    have hf := hfs26
    exact Jk21  _ _  ((hs.mask []).pick []) hf } }
  refine W.region ?_
  refine WL.fieldAddr (m := 0) rfl FA35_0 rfl ?_
  refine WL.loadF (z := x1.Process) F_history_Operation_Process hs 1 rfl 0 rfl rfl TI3 (.inr rfl) rfl rfl (fun v103 hs => ?_)
  obtain rfl := hs.int 0 rfl
  refine WL.fieldAddr (m := 0) rfl FA35_0 rfl ?_
  refine WL.loadF (z := x5.Process) F_history_Operation_Process hs 0 rfl 2 rfl rfl TI3 (.inr rfl) rfl rfl (fun v104 hs => ?_)
  obtain rfl := hs.int 0 rfl
  refine WL.bin (v := .bool (x1.Process != x5.Process)) rfl rfl (ib_neq _ _ _) ?_
  refine WL.move (v := .bool (x1.Process != x5.Process)) rfl ?_
  rcases iteE hf with ⟨hc105, hf⟩ | ⟨hc105, hf⟩
  {
  refine WL.pass ((wanted_of rfl rfl (bool_tr rfl hc105)).trans rfl) rfl ?_
  refine WL.pass ((wanted_of rfl rfl (bool_tr rfl hc105)).trans rfl) rfl ?_
  refine WL.pass ((wanted_of rfl rfl (bool_tr rfl hc105)).trans rfl) rfl ?_
  refine WL.pass ((wanted_of rfl rfl (bool_tr rfl hc105)).trans rfl) rfl ?_
  refine WL.pass ((wanted_of rfl rfl (bool_tr rfl hc105)).trans rfl) rfl ?_
  refine WL.pickT (v := .bool true) (bool_tr rfl hc105) rfl ?_
  refine WL.move (v := .bool true) rfl ?_
  refine WL.pass ((wanted_of rfl rfl rfl).trans rfl) rfl ?_
  refine WL.pass ((wanted_of rfl rfl rfl).trans rfl) rfl ?_
  refine WL.pass ((wanted_of rfl rfl rfl).trans rfl) rfl ?_
  refine WL.pass ((wanted_of rfl rfl rfl).trans rfl) rfl ?_
  refine WL.pass ((wanted_of rfl rfl rfl).trans rfl) rfl ?_
  refine WL.pickT (v := .bool true) rfl rfl ?_
  refine WL.move (v := .bool true) rfl ?_
  refine WL.pass ((wanted_of rfl rfl rfl).trans rfl) rfl ?_
  refine WL.pass ((wanted_of rfl rfl rfl).trans rfl) rfl ?_
  refine WL.pass ((wanted_of rfl rfl rfl).trans rfl) rfl ?_
  refine WL.pass ((wanted_of rfl rfl rfl).trans rfl) rfl ?_
  refine WL.pass ((wanted_of rfl rfl rfl).trans rfl) rfl ?_
  refine WL.pickT (v := .bool true) rfl rfl ?_
  refine WL.move (v := .bool true) rfl ?_
  refine WL.pass ((wanted_of rfl rfl rfl).trans rfl) rfl ?_
  refine WL.pass ((wanted_of rfl rfl rfl).trans rfl) rfl ?_
  refine WL.pass ((wanted_of rfl rfl rfl).trans rfl) rfl ?_
  refine WL.pass ((wanted_of rfl rfl rfl).trans rfl) rfl ?_
  refine WL.pass ((wanted_of rfl rfl rfl).trans rfl) rfl ?_
  refine WL.pass ((wanted_of rfl rfl rfl).trans rfl) rfl ?_
  refine WL.pass ((wanted_of rfl rfl rfl).trans rfl) rfl ?_
  refine WL.pickT (v := .bool true) rfl rfl ?_
  refine WL.move (v := .bool true) rfl ?_
  refine WL.pass ((wanted_of rfl rfl rfl).trans rfl) rfl ?_
  refine WL.pass ((wanted_of rfl rfl rfl).trans rfl) rfl ?_
  refine WL.pass ((wanted_of rfl rfl rfl).trans rfl) rfl ?_
  refine WL.pass ((wanted_of rfl rfl rfl).trans rfl) rfl ?_
  refine WL.pass ((wanted_of rfl rfl rfl).trans rfl) rfl ?_
  refine WL.pass ((wanted_of rfl rfl rfl).trans rfl) rfl ?_
  refine WL.pickT (v := .bool true) rfl rfl ?_
  refine WL.nil ?_
  exact Jk16 true _ _ rfl rfl rfl ((hs.mask [true, true]).pick [3, 2]) hf }
  {
  refine WL.fieldAddr (m := 1) rfl FA35_1 rfl ?_ (hg := (wanted_of rfl rfl (bool_tr rfl hc105)).trans rfl)
  refine WL.loadF (z := x1.Kind) F_history_Operation_Kind hs 1 rfl 2 rfl rfl TI3 (.inr rfl) rfl rfl (fun v106 hs => ?_) (hg := (wanted_of rfl rfl (bool_tr rfl hc105)).trans rfl)
  obtain rfl := hs.int 0 rfl
  refine WL.fieldAddr (m := 1) rfl FA35_1 rfl ?_ (hg := (wanted_of rfl rfl (bool_tr rfl hc105)).trans rfl)
  refine WL.loadF (z := x5.Kind) F_history_Operation_Kind hs 0 rfl 4 rfl rfl TI3 (.inr rfl) rfl rfl (fun v107 hs => ?_) (hg := (wanted_of rfl rfl (bool_tr rfl hc105)).trans rfl)
  obtain rfl := hs.int 0 rfl
  refine WL.bin (v := .bool (x1.Kind != x5.Kind)) rfl rfl (ib_neq _ _ _) ?_ (hg := (wanted_of rfl rfl (bool_tr rfl hc105)).trans rfl)
  refine WL.pickF (v := .bool (x1.Kind != x5.Kind)) (bool_tr rfl hc105) rfl ?_
  refine WL.move (v := .bool (x1.Kind != x5.Kind)) rfl ?_
  rcases iteE hf with ⟨hc108, hf⟩ | ⟨hc108, hf⟩
  {
  refine WL.pass ((wanted_of rfl rfl (bool_tr rfl hc108)).trans rfl) rfl ?_
  refine WL.pass ((wanted_of rfl rfl (bool_tr rfl hc108)).trans rfl) rfl ?_
  refine WL.pass ((wanted_of rfl rfl (bool_tr rfl hc108)).trans rfl) rfl ?_
  refine WL.pass ((wanted_of rfl rfl (bool_tr rfl hc108)).trans rfl) rfl ?_
  refine WL.pass ((wanted_of rfl rfl (bool_tr rfl hc108)).trans rfl) rfl ?_
  refine WL.pickT (v := .bool true) (bool_tr rfl hc108) rfl ?_
  refine WL.move (v := .bool true) rfl ?_
  refine WL.pass ((wanted_of rfl rfl rfl).trans rfl) rfl ?_
  refine WL.pass ((wanted_of rfl rfl rfl).trans rfl) rfl ?_
  refine WL.pass ((wanted_of rfl rfl rfl).trans rfl) rfl ?_
  refine WL.pass ((wanted_of rfl rfl rfl).trans rfl) rfl ?_
  refine WL.pass ((wanted_of rfl rfl rfl).trans rfl) rfl ?_
  refine WL.pickT (v := .bool true) rfl rfl ?_
  refine WL.move (v := .bool true) rfl ?_
  refine WL.pass ((wanted_of rfl rfl rfl).trans rfl) rfl ?_
  refine WL.pass ((wanted_of rfl rfl rfl).trans rfl) rfl ?_
  refine WL.pass ((wanted_of rfl rfl rfl).trans rfl) rfl ?_
  refine WL.pass ((wanted_of rfl rfl rfl).trans rfl) rfl ?_
  refine WL.pass ((wanted_of rfl rfl rfl).trans rfl) rfl ?_
  refine WL.pass ((wanted_of rfl rfl rfl).trans rfl) rfl ?_
  refine WL.pass ((wanted_of rfl rfl rfl).trans rfl) rfl ?_
  refine WL.pickT (v := .bool true) rfl rfl ?_
  refine WL.move (v := .bool true) rfl ?_
  refine WL.pass ((wanted_of rfl rfl rfl).trans rfl) rfl ?_
  refine WL.pass ((wanted_of rfl rfl rfl).trans rfl) rfl ?_
  refine WL.pass ((wanted_of rfl rfl rfl).trans rfl) rfl ?_
  refine WL.pass ((wanted_of rfl rfl rfl).trans rfl) rfl ?_
  refine WL.pass ((wanted_of rfl rfl rfl).trans rfl) rfl ?_
  refine WL.pass ((wanted_of rfl rfl rfl).trans rfl) rfl ?_
  refine WL.pickT (v := .bool true) rfl rfl ?_
  refine WL.nil ?_
  exact Jk16 true _ _ rfl rfl rfl ((hs.mask [true, true]).pick [5, 4]) hf }
  {
  refine WL.fieldAddr (m := 4) rfl FA35_4 rfl ?_ (hg := (wanted_of rfl rfl (bool_tr rfl hc108)).trans rfl)
  refine WL.loadF (z := x1.Call) F_history_Operation_Call hs 1 rfl 4 rfl rfl TI3 (.inr rfl) rfl rfl (fun v109 hs => ?_) (hg := (wanted_of rfl rfl (bool_tr rfl hc108)).trans rfl)
  obtain rfl := hs.int 0 rfl
  refine WL.fieldAddr (m := 4) rfl FA35_4 rfl ?_ (hg := (wanted_of rfl rfl (bool_tr rfl hc108)).trans rfl)
  refine WL.loadF (z := x5.Call) F_history_Operation_Call hs 0 rfl 6 rfl rfl TI3 (.inr rfl) rfl rfl (fun v110 hs => ?_) (hg := (wanted_of rfl rfl (bool_tr rfl hc108)).trans rfl)
  obtain rfl := hs.int 0 rfl
  refine WL.bin (v := .bool (x1.Call != x5.Call)) rfl rfl (ib_neq _ _ _) ?_ (hg := (wanted_of rfl rfl (bool_tr rfl hc108)).trans rfl)
  refine WL.pickF (v := .bool (x1.Call != x5.Call)) (bool_tr rfl hc108) rfl ?_
  refine WL.move (v := .bool (x1.Call != x5.Call)) rfl ?_
  rcases iteE hf with ⟨hc111, hf⟩ | ⟨hc111, hf⟩
  {
  refine WL.pass ((wanted_of rfl rfl (bool_tr rfl hc111)).trans rfl) rfl ?_
  refine WL.pass ((wanted_of rfl rfl (bool_tr rfl hc111)).trans rfl) rfl ?_
  refine WL.pass ((wanted_of rfl rfl (bool_tr rfl hc111)).trans rfl) rfl ?_
  refine WL.pass ((wanted_of rfl rfl (bool_tr rfl hc111)).trans rfl) rfl ?_
  refine WL.pass ((wanted_of rfl rfl (bool_tr rfl hc111)).trans rfl) rfl ?_
  refine WL.pickT (v := .bool true) (bool_tr rfl hc111) rfl ?_
  refine WL.move (v := .bool true) rfl ?_
  refine WL.pass ((wanted_of rfl rfl rfl).trans rfl) rfl ?_
  refine WL.pass ((wanted_of rfl rfl rfl).trans rfl) rfl ?_
  refine WL.pass ((wanted_of rfl rfl rfl).trans rfl) rfl ?_
  refine WL.pass ((wanted_of rfl rfl rfl).trans rfl) rfl ?_
  refine WL.pass ((wanted_of rfl rfl rfl).trans rfl) rfl ?_
  refine WL.pass ((wanted_of rfl rfl rfl).trans rfl) rfl ?_
  refine WL.pass ((wanted_of rfl rfl rfl).trans rfl) rfl ?_
  refine WL.pickT (v := .bool true) rfl rfl ?_
  refine WL.move (v := .bool true) rfl ?_
  refine WL.pass ((wanted_of rfl rfl rfl).trans rfl) rfl ?_
  refine WL.pass ((wanted_of rfl rfl rfl).trans rfl) rfl ?_
  refine WL.pass ((wanted_of rfl rfl rfl).trans rfl) rfl ?_
  refine WL.pass ((wanted_of rfl rfl rfl).trans rfl) rfl ?_
  refine WL.pass ((wanted_of rfl rfl rfl).trans rfl) rfl ?_
  refine WL.pass ((wanted_of rfl rfl rfl).trans rfl) rfl ?_
  refine WL.pickT (v := .bool true) rfl rfl ?_
  refine WL.nil ?_
  exact Jk16 true _ _ rfl rfl rfl ((hs.mask [true, true]).pick [7, 6]) hf }
  {
  refine WL.fieldAddr (m := 5) rfl FA35_5 rfl ?_ (hg := (wanted_of rfl rfl (bool_tr rfl hc111)).trans rfl)
  refine WL.loadF (z := x1.Return) F_history_Operation_Return hs 1 rfl 6 rfl rfl TI3 (.inr rfl) rfl rfl (fun v112 hs => ?_) (hg := (wanted_of rfl rfl (bool_tr rfl hc111)).trans rfl)
  obtain rfl := hs.int 0 rfl
  refine WL.fieldAddr (m := 5) rfl FA35_5 rfl ?_ (hg := (wanted_of rfl rfl (bool_tr rfl hc111)).trans rfl)
  refine WL.loadF (z := x5.Return) F_history_Operation_Return hs 0 rfl 8 rfl rfl TI3 (.inr rfl) rfl rfl (fun v113 hs => ?_) (hg := (wanted_of rfl rfl (bool_tr rfl hc111)).trans rfl)
  obtain rfl := hs.int 0 rfl
  refine WL.bin (v := .bool (x1.Return != x5.Return)) rfl rfl (ib_neq _ _ _) ?_ (hg := (wanted_of rfl rfl (bool_tr rfl hc111)).trans rfl)
  refine WL.pickF (v := .bool (x1.Return != x5.Return)) (bool_tr rfl hc111) rfl ?_
  refine WL.move (v := .bool (x1.Return != x5.Return)) rfl ?_
  rcases iteE hf with ⟨hc114, hf⟩ | ⟨hc114, hf⟩
  {
  refine WL.pass ((wanted_of rfl rfl (bool_tr rfl hc114)).trans rfl) rfl ?_
  refine WL.pass ((wanted_of rfl rfl (bool_tr rfl hc114)).trans rfl) rfl ?_
  refine WL.pass ((wanted_of rfl rfl (bool_tr rfl hc114)).trans rfl) rfl ?_
  refine WL.pass ((wanted_of rfl rfl (bool_tr rfl hc114)).trans rfl) rfl ?_
  refine WL.pass ((wanted_of rfl rfl (bool_tr rfl hc114)).trans rfl) rfl ?_
  refine WL.pass ((wanted_of rfl rfl (bool_tr rfl hc114)).trans rfl) rfl ?_
  refine WL.pass ((wanted_of rfl rfl (bool_tr rfl hc114)).trans rfl) rfl ?_
  refine WL.pickT (v := .bool true) (bool_tr rfl hc114) rfl ?_
  refine WL.move (v := .bool true) rfl ?_
  refine WL.pass ((wanted_of rfl rfl rfl).trans rfl) rfl ?_
  refine WL.pass ((wanted_of rfl rfl rfl).trans rfl) rfl ?_
  refine WL.pass ((wanted_of rfl rfl rfl).trans rfl) rfl ?_
  refine WL.pass ((wanted_of rfl rfl rfl).trans rfl) rfl ?_
  refine WL.pass ((wanted_of rfl rfl rfl).trans rfl) rfl ?_
  refine WL.pass ((wanted_of rfl rfl rfl).trans rfl) rfl ?_
  refine WL.pickT (v := .bool true) rfl rfl ?_
  refine WL.nil ?_
  exact Jk16 true _ _ rfl rfl rfl ((hs.mask [true, true]).pick [9, 8]) hf }
  {
  refine WL.fieldAddr (m := 2) rfl FA35_2 rfl ?_ (hg := (wanted_of rfl rfl (bool_tr rfl hc114)).trans rfl)
  refine WL.loadF (z := x1.Effects) F_history_Operation_Effects hs 1 rfl 8 rfl rfl TI30 (.inr rfl) rfl rfl (fun v115 hs => ?_) (hg := (wanted_of rfl rfl (bool_tr rfl hc114)).trans rfl)
  obtain ⟨a116, c117, rfl⟩ := hs.slice 0 rfl
  refine WL.len (v := .slice a116 (x1.Effects).length c117) rfl (len_slice UN30) ?_ (hg := (wanted_of rfl rfl (bool_tr rfl hc114)).trans rfl)
  refine WL.fieldAddr (m := 2) rfl FA35_2 rfl ?_ (hg := (wanted_of rfl rfl (bool_tr rfl hc114)).trans rfl)
  refine WL.loadF (z := x5.Effects) F_history_Operation_Effects hs 0 rfl 10 rfl rfl TI30 (.inr rfl) rfl rfl (fun v118 hs => ?_) (hg := (wanted_of rfl rfl (bool_tr rfl hc114)).trans rfl)
  obtain ⟨a119, c120, rfl⟩ := hs.slice 0 rfl
  refine WL.len (v := .slice a119 (x5.Effects).length c120) rfl (len_slice UN30) ?_ (hg := (wanted_of rfl rfl (bool_tr rfl hc114)).trans rfl)
  refine WL.bin (v := .bool (((x1.Effects).length : Int) != ((x5.Effects).length : Int))) rfl rfl (ib_neq _ _ _) ?_ (hg := (wanted_of rfl rfl (bool_tr rfl hc114)).trans rfl)
  refine WL.pickF (v := .bool (((x1.Effects).length : Int) != ((x5.Effects).length : Int))) (bool_tr rfl hc114) rfl ?_
  refine WL.move (v := .bool (((x1.Effects).length : Int) != ((x5.Effects).length : Int))) rfl ?_
  rcases iteE hf with ⟨hc121, hf⟩ | ⟨hc121, hf⟩
  {
  refine WL.pass ((wanted_of rfl rfl (bool_tr rfl hc121)).trans rfl) rfl ?_
  refine WL.pass ((wanted_of rfl rfl (bool_tr rfl hc121)).trans rfl) rfl ?_
  refine WL.pass ((wanted_of rfl rfl (bool_tr rfl hc121)).trans rfl) rfl ?_
  refine WL.pass ((wanted_of rfl rfl (bool_tr rfl hc121)).trans rfl) rfl ?_
  refine WL.pass ((wanted_of rfl rfl (bool_tr rfl hc121)).trans rfl) rfl ?_
  refine WL.pass ((wanted_of rfl rfl (bool_tr rfl hc121)).trans rfl) rfl ?_
  refine WL.pickT (v := .bool true) (bool_tr rfl hc121) rfl ?_
  refine WL.nil ?_
  exact Jk16 true _ _ rfl rfl rfl ((hs.mask [true, true]).pick [11, 10]) hf }
  {
  refine WL.fieldAddr (m := 3) rfl FA35_3 rfl ?_ (hg := (wanted_of rfl rfl (bool_tr rfl hc121)).trans rfl)
  refine WL.loadF (z := x1.Result) F_history_Operation_Result hs 1 rfl 10 rfl rfl TI31 (.inr rfl) rfl rfl (fun v122 hs => ?_) (hg := (wanted_of rfl rfl (bool_tr rfl hc121)).trans rfl)
  obtain ⟨a123, c124, rfl⟩ := hs.slice 0 rfl
  refine WL.fieldAddr (m := 3) rfl FA35_3 rfl ?_ (hg := (wanted_of rfl rfl (bool_tr rfl hc121)).trans rfl)
  refine WL.loadF (z := x5.Result) F_history_Operation_Result hs 0 rfl 12 rfl rfl TI31 (.inr rfl) rfl rfl (fun v125 hs => ?_) (hg := (wanted_of rfl rfl (bool_tr rfl hc121)).trans rfl)
  obtain ⟨a126, c127, rfl⟩ := hs.slice 0 rfl
  obtain ⟨x128, hxx128, hf⟩ := bindE hf
  refine WL.call (vs := [.slice a123 (x1.Result).length c124, .slice a126 (x5.Result).length c127]) hs FN26 ⟨rfl, ⟨rfl, trivial⟩⟩ (fun ok hA => esref39_SameValues.calls (x1 := x1.Result) (x4 := x5.Result) hxx128 (hA.get 1 rfl) (hA.get 0 rfl)) ?_ (hg := (wanted_of rfl rfl (bool_tr rfl hc121)).trans rfl)
  rintro _ w hs
  refine WL.not rfl ?_ (hg := (wanted_of rfl rfl (bool_tr rfl hc121)).trans rfl)
  refine WL.pickF (v := .bool (!x128)) (bool_tr rfl hc121) rfl ?_
  refine WL.nil ?_
  exact Jk16 (!x128) _ _ rfl rfl rfl ((hs.mask [true, true]).pick [13, 12]) hf } } } } }
end Go.Proofs.Ytbbeobiampbddaa
set_option linter.unusedVariables false
set_option linter.unusedSimpArgs false
namespace Go.Proofs.Ytbbeobiampbddaa
open Go Go.RowKit Go.Proofs.YtbbeobiampbddaaL
set_option maxRecDepth 100000
set_option maxHeartbeats 4000000
theorem history_Validate.calls {ok : Nat → Prop} {w0 : World} {x1 : history_History} {v2 : Value} {r : Int} (hf : history_Validate x1 = some r) (i0 : (vl t_history_History x1 v2).holds ok w0) :
    Calls Try.prog 11 #[v2] w0 fun e w' => ∃ v, e = .returned v ∧ ∃ y : Unit, v = .int .i64 r ∧ St ok (bz w0) w' [] [] := by
  unfold history_Validate at hf
  refine calls_of_W (fn := Try.f11) (N := 61) Try.func11 rfl Try.ntmps11 rfl ?_
  have hs : St ok (bz w0) w0 [vl t_history_History x1 v2] [] := St.init (All.cons i0 All.nil)
  clear i0
  obtain ⟨cs3, hl4, rfl⟩ := hs.aggv (n := 1) 0 rfl rfl rfl
  refine W.seqK fun K5 hK5 => ?_
  refine W.region ?_
  refine WL.box (vs := cs3) hs rfl rfl (fun g6 w hs => ?_)
  refine WL.assign (v := .int .i64 0) rfl ?_
  refine WL.nil ?_
  refine hK5 _ _ ?_
  refine W.seqK fun K7 hK7 => ?_
  refine W.region ?_
  refine WL.makeMap (fun a : Int => .int .i64 a) tBool hs (fun g8 w hs => ?_)
  refine WL.makeMap (fun a : Int => .int .i64 a) (tInt .i64) hs (fun g9 w hs => ?_)
  refine WL.build (vs := [(1, .map (some g8)), (2, .map (some g9))]) (cs := [.int .i64 0, .map (some g8), .map (some g9)]) ⟨⟨rfl, rfl⟩, ⟨⟨rfl, rfl⟩, trivial⟩⟩ (bld PL80 rfl) ?_
  refine WL.box (vs := [.int .i64 0, .map (some g8), .map (some g9)]) hs rfl rfl (fun g10 w hs => ?_)
  refine WL.assign (v := .pointer (some ⟨g10, 0, none⟩)) rfl ?_
  refine WL.nil ?_
  refine hK7 _ _ ?_
  refine W.seqK fun K11 hK11 => ?_
  have Jk13 : ∀  (ρ : Env) (w : World), St ok (bz w0) w [] [] → history_Validate.j1 = some r → K11 ρ w := by
    intro  ρ w  hs hf
    refine hK11 _ _ ?_
    unfold history_Validate.j1 at hf
    refine W.seqK fun K14 hK14 => ?_
    refine W.region ?_
    refine WL.assign (v := .int .i64 0) rfl ?_
    refine WL.nil ?_
    refine hK14 _ _ ?_
    refine W.ret ?_
    have hr := Option.some.inj hf; subst hr
    exact ⟨_, resOk_one rfl rfl, (), rfl, (hs.mask []).pick []⟩
  refine W.seqK fun K15 hK15 => ?_
  refine W.region ?_
  refine WL.fieldAddr (m := 0) rfl FA24_0 rfl ?_
  refine WL.loadF (z := x1.Operations) F_history_History_Operations hs 3 rfl 0 rfl rfl TI22 (.inr rfl) rfl rfl (fun v16 hs => ?_)
  obtain ⟨a17, c18, rfl⟩ := hs.slice 0 rfl
  refine WL.len (v := .slice a17 (x1.Operations).length c18) rfl (len_slice UN22) ?_
  refine WL.move (v := .int .i64 0) rfl ?_
  refine WL.nil ?_
  refine hK15 _ _ ?_
  refine W.block ?_
  obtain ⟨bs26, hbs26, hfs26⟩ := bindE hf
  refine W.loop hbs26 (fun s ρ w => match s with | (x20, x21, x22, x24) => ∃ (g23 : Nat), ∃ (g25 : Nat), ρ 3 = .pointer (some ⟨g10, 0, none⟩) ∧ ρ 12 = .slice a17 (x1.Operations).length c18 ∧ ρ 13 = .int .i64 ((x1.Operations).length : Int) ∧ ρ 14 = .int .i64 x20 ∧ St ok (bz w0) w [vl (tSlice t_history_Operation) x1.Operations (.slice a17 (x1.Operations).length c18)] [blk g10 80 [.int .i64 x21, .map (some g23), .map (some g25)], mapo (fun a : Int => .int .i64 a) (tInt .i64) g25 x24, mapo (fun a : Int => .int .i64 a) tBool g23 x22]) ⟨g8, g9, rfl, rfl, rfl, rfl, (hs.mask [true, true, true]).pick [0]⟩ ?_
  intro s ρ w os26 hI hf hbbs26
  obtain ⟨x20, x21, x22, x24⟩ := s
  obtain ⟨g23, g25, h19_3, h19_12, h19_13, h19_14, hs⟩ := hI
  unfold history_Validate.l1 at hf
  refine W.seqK fun K27 hK27 => ?_
  refine W.region ?_
  refine WL.bin (v := .bool (decide (x20 < ((x1.Operations).length : Int)))) h19_14 h19_13 (ib_lss _ _ _) ?_
  refine WL.nil ?_
  refine hK27 _ _ ?_
  refine W.seqK fun K28 hK28 => ?_
  rcases iteE hf with ⟨hc29, hf⟩ | ⟨hc29, hf⟩
  {
  refine W.cond_true (bool_tr rfl hc29) ?_
  refine W.skip ?_
  refine hK28 _ _ ?_
  refine W.seqK fun K30 hK30 => ?_
  refine W.block ?_
  refine W.seqK fun K31 hK31 => ?_
  refine W.region ?_
  obtain ⟨x32, hxx32, hf⟩ := bindE hf
  refine WL.indexAddr hs 0 rfl UN22 TI35 h19_12 h19_14 hxx32 (fun ad33 hs => ?_)
  refine WL.loadP hs 0 rfl TI35 (.inl rfl) rfl (fun v34 hs => ?_)
  obtain ⟨cs35, hl36, rfl⟩ := hs.aggv (n := 6) 0 rfl rfl rfl
  refine WL.alloc hs ZV35 (fun g37 w hs => ?_)
  refine WL.storeAll (vs := cs35) hs 0 rfl TI35 rfl rfl rfl hl36 (hs.ones 0 rfl rfl) rfl (fun w hs => ?_)
  refine WL.nil ?_
  refine hK31 _ _ ?_
  refine W.seqK fun K38 hK38 => ?_
  refine W.seqK fun K39 hK39 => ?_
  refine W.region ?_
  refine WL.move (v := .pointer (some ⟨g10, 0, none⟩)) h19_3 ?_
  refine WL.loadAll hs 0 rfl TI35 rfl hl36 ?_
  obtain ⟨⟨x40, x41⟩, hxx40, hf⟩ := bindE hf
  have hs := hs.front 2 rfl
  have hs := hs.front 3 rfl
  have hs := hs.front 3 rfl
  refine WL.callO (vs := [.pointer (some ⟨g10, 0, none⟩), .agg cs35.toArray]) [blk g10 80 [.int .i64 x21, .map (some g23), .map (some g25)], mapo (fun a : Int => .int .i64 a) tBool g23 x22, mapo (fun a : Int => .int .i64 a) (tInt .i64) g25 x24] (Λb := [blk g37 35 cs35]) hs FN36 ⟨rfl, ⟨rfl, trivial⟩⟩ (fun ok F hs => history_validator_operation.calls (g2 := g10) (g3 := g23) (g4 := g25) (x1 := (⟨x21, x22, x24⟩ : history_validator)) (x5 := x32) hxx40 (hs.pick [0])) ?_
  rintro ⟨g42, g43⟩ w hs
  refine WL.assign (v := .int .i64 x40) rfl ?_
  refine WL.nil ?_
  refine hK39 _ _ ?_
  refine W.seqK fun K44 hK44 => ?_
  refine W.region ?_
  refine WL.move (v := .int .i64 x40) rfl ?_
  refine WL.bin (v := .bool (x40 != 0)) rfl rfl (ib_neq _ _ _) ?_
  refine WL.nil ?_
  refine hK44 _ _ ?_
  rcases iteE hf with ⟨hc45, hf⟩ | ⟨hc45, hf⟩
  {
  refine W.cond_true (bool_tr rfl hc45) ?_
  refine W.seqK fun K46 hK46 => ?_
  refine W.region ?_
  refine WL.move (v := .int .i64 x40) rfl ?_
  refine WL.assign (v := .int .i64 x40) rfl ?_
  refine WL.nil ?_
  refine hK46 _ _ ?_
  refine W.ret ?_
  have hr := Option.some.inj hf; subst hr
  have hr := hbbs26 _ rfl; subst hr
  have hf := hfs26
  have hr := Option.some.inj hf; subst hr
  exact ⟨_, resOk_one rfl rfl, (), rfl, (hs.mask []).pick []⟩ }
  {
  refine W.cond_false (bool_tr rfl hc45) ?_
  refine W.skip ?_
  refine hK38 _ _ ?_
  refine W.seqK fun K47 hK47 => ?_
  refine W.region ?_
  refine WL.move (v := .pointer (some ⟨g10, 0, none⟩)) h19_3 ?_
  refine WL.fieldAddr (m := 4) rfl FA35_4 rfl ?_
  refine WL.loadF (z := x32.Call) F_history_Operation_Call hs 3 rfl 0 rfl rfl TI3 (.inr rfl) rfl rfl (fun v48 hs => ?_)
  obtain rfl := hs.int 0 rfl
  refine WL.nilCheck (v := .pointer (some ⟨g10, 0, none⟩)) rfl rfl ?_
  refine WL.fieldAddr (m := 0) rfl FA80_0 rfl ?_
  refine WL.store (vs := [.int .i64 x32.Call]) (cs' := [.int .i64 x32.Call, .map (some g42), .map (some g43)]) hs 0 rfl TI3 rfl rfl rfl rfl (ones_of rfl) (Nat.le_of_ble_eq_true rfl) rfl (fun w hs => ?_)
  refine WL.nil ?_
  refine hK47 _ _ ?_
  refine W.seqK fun K49 hK49 => ?_
  refine W.any (by kernel_rfl) 6 1 [true, true, true, true, true, true, false] rfl rfl (poAt [pv (.pointer (some ⟨g10, 0, none⟩)), pv (.pointer (some ⟨g10, 0, none⟩)), pv (.pointer (some ⟨g10, 1, none⟩)), pv (.map (some g42)), pv (.pointer (some ⟨g37, 4, none⟩)), pv (.int .i64 x32.Call)]) (Λ := [blk g10 80 [.int .i64 x32.Call, .map (some g42), .map (some g43)], mapo (fun a : Int => .int .i64 a) tBool g42 x41.f_events, mapo (fun a : Int => .int .i64 a) (tInt .i64) g43 x41.f_returns, blk g37 35 cs35]) hs (by kernel_rfl) (by kernel_rfl) (by kernel_rfl) ⟨⟨⟨⟨⟨⟨trivial, ?_⟩, ?_⟩, ?_⟩, ?_⟩, ?_⟩, ?_⟩ ?_
  {
  intro ρ w Γx Λx hs hu hp
  refine WL.move (v := .pointer (some ⟨g10, 0, none⟩)) ((hu 3 rfl).trans h19_3) ?_
  exact WL.nil ⟨rfl, _, rfl, rfl, hs.cutG 0 0⟩ }
  {
  intro ρ w Γx Λx hs hu hp
  have e51 : ρ 29 = .pointer (some ⟨g10, 0, none⟩) := (hp 0 rfl).1
  refine WL.nilCheck (v := .pointer (some ⟨g10, 0, none⟩)) e51 rfl ?_
  exact WL.nil ⟨rfl, _, rfl, rfl, hs.cutG 0 0⟩ }
  {
  intro ρ w Γx Λx hs hu hp
  have e52 : ρ 30 = .pointer (some ⟨g10, 0, none⟩) := (hp 1 rfl).1
  refine WL.fieldAddr (m := 1) e52 FA80_1 rfl ?_
  exact WL.nil ⟨rfl, _, rfl, rfl, hs.cutG 0 0⟩ }
  {
  intro ρ w Γx Λx hs hu hp
  have e53 : ρ 31 = .pointer (some ⟨g10, 1, none⟩) := (hp 2 rfl).1
  refine WL.load1 (v := .map (some g42)) hs (Λx.length + 0) (getApp rfl) TI77 e53 rfl ?_
  exact WL.nil ⟨rfl, _, rfl, rfl, hs.cutG 0 0⟩ }
  {
  intro ρ w Γx Λx hs hu hp
  refine WL.fieldAddr (m := 4) (hu 5 rfl) FA35_4 rfl ?_
  exact WL.nil ⟨rfl, _, rfl, rfl, hs.cutG 0 0⟩ }
  {
  intro ρ w Γx Λx hs hu hp
  have e54 : ρ 33 = .pointer (some ⟨g37, 4, none⟩) := (hp 4 rfl).1
  refine WL.loadF (z := x32.Call) F_history_Operation_Call hs (Λx.length + 3) (getApp rfl) (Γx.length + 1) (getApp rfl) rfl TI3 (.inr rfl) e54 rfl (fun v50 hs => ?_)
  obtain rfl := hs.int 0 rfl
  exact WL.nil ⟨rfl, _, rfl, rfl, hs.cutG 0 1⟩ }
  {
  intro ρ w hs hu55 hp
  obtain ⟨⟨⟨⟨⟨⟨_, hp0_⟩, hp1_⟩, hp2_⟩, hp3_⟩, hp4_⟩, hp5_⟩ := hp
  have hs : St ok (bz w0) w [vl (tInt .i64) x32.Call (.int .i64 x32.Call), vl t_history_Operation x32 (.agg cs35.toArray), pl t_history_Operation x32 ad33, vl (tSlice t_history_Operation) x1.Operations (.slice a17 (x1.Operations).length c18)] [blk g10 80 [.int .i64 x32.Call, .map (some g42), .map (some g43)], mapo (fun a : Int => .int .i64 a) tBool g42 x41.f_events, mapo (fun a : Int => .int .i64 a) (tInt .i64) g43 x41.f_returns, blk g37 35 cs35] := hs
  have e56 : ρ 34 = .int .i64 x32.Call := hp5_
  have e57 : ρ 33 = .pointer (some ⟨g37, 4, none⟩) := hp4_
  have e58 : ρ 32 = .map (some g42) := hp3_
  have e59 : ρ 31 = .pointer (some ⟨g10, 1, none⟩) := hp2_
  have e60 : ρ 30 = .pointer (some ⟨g10, 0, none⟩) := hp1_
  have e61 : ρ 29 = .pointer (some ⟨g10, 0, none⟩) := hp0_
  refine WA.step [6] (by kernel_rfl) (by simp) ⟨?_, trivial⟩
  obtain ⟨x62, exx62, hf⟩ := letE hf
  refine WL.mapUpdate (a := x32.Call) (y := true) (v := .bool true) hs 1 rfl (kkInt UN3) UN77 e58 e56 rfl (fun ok hA => tBool_V.2 rfl) exx62 (fun w hs => ?_)
  refine WL.nil ⟨rfl, _, rfl, ?_⟩
  refine WA.done (by kernel_rfl) ?_
  refine hK49 _ _ ?_
  refine W.seqK fun K63 hK63 => ?_
  have Jk66 : ∀ (x64 : List (Int × Bool)) (ρ : Env) (w : World), ρ 3 = .pointer (some ⟨g10, 0, none⟩) → ρ 5 = .pointer (some ⟨g37, 0, none⟩) → ρ 12 = .slice a17 (x1.Operations).length c18 → ρ 13 = .int .i64 ((x1.Operations).length : Int) → ρ 14 = .int .i64 x20 → St ok (bz w0) w [vl (tSlice t_history_Operation) x1.Operations (.slice a17 (x1.Operations).length c18), vl t_history_Operation x32 (.agg cs35.toArray)] [blk g10 80 [.int .i64 x32.Call, .map (some g42), .map (some g43)], mapo (fun a : Int => .int .i64 a) tBool g42 x64, mapo (fun a : Int => .int .i64 a) (tInt .i64) g43 x41.f_returns, blk g37 35 cs35] → history_Validate.j2 x20 x32 x41 x64 = some os26 → K63 ρ w := by
    intro x64 ρ w h65_3 h65_5 h65_12 h65_13 h65_14 hs hf
    refine hK63 _ _ ?_
    unfold history_Validate.j2 at hf
    obtain ⟨x69, exx69, hf⟩ := letE hf
    refine W.any (by kernel_rfl) 16 1 [true, true, true, true, true, true, true, true, true, true, true, true, true, true, true, true, false] rfl rfl (poAt [pv (.pointer (some ⟨g10, 0, none⟩)), pv (.pointer (some ⟨g10, 0, none⟩)), pv (.pointer (some ⟨g10, 2, none⟩)), pv (.map (some g43)), pv (.pointer (some ⟨g37, 0, none⟩)), pv (.int .i64 x32.Process), pv (.pointer (some ⟨g10, 0, none⟩)), pv (.pointer (some ⟨g10, 0, none⟩)), pv (.pointer (some ⟨g10, 2, none⟩)), pv (.map (some g43)), pv (.pointer (some ⟨g37, 0, none⟩)), pv (.int .i64 x32.Process), pv (.int .i64 x69), pv (.pointer (some ⟨g37, 5, none⟩)), pv (.int .i64 x32.Return), pv (.int .i64 (maxI x69 x32.Return))]) (Λ := [blk g10 80 [.int .i64 x32.Call, .map (some g42), .map (some g43)], mapo (fun a : Int => .int .i64 a) tBool g42 x64, mapo (fun a : Int => .int .i64 a) (tInt .i64) g43 x41.f_returns, blk g37 35 cs35]) hs (by kernel_rfl) (by kernel_rfl) (by kernel_rfl) ⟨⟨⟨⟨⟨⟨⟨⟨⟨⟨⟨⟨⟨⟨⟨⟨trivial, ?_⟩, ?_⟩, ?_⟩, ?_⟩, ?_⟩, ?_⟩, ?_⟩, ?_⟩, ?_⟩, ?_⟩, ?_⟩, ?_⟩, ?_⟩, ?_⟩, ?_⟩, ?_⟩ ?_
    {
    intro ρ w Γx Λx hs hu hp
    refine WL.move (v := .pointer (some ⟨g10, 0, none⟩)) ((hu 3 rfl).trans h65_3) ?_
    exact WL.nil ⟨rfl, _, rfl, rfl, hs.cutG 0 0⟩ }
    {
    intro ρ w Γx Λx hs hu hp
    have e72 : ρ 44 = .pointer (some ⟨g10, 0, none⟩) := (hp 0 rfl).1
    refine WL.nilCheck (v := .pointer (some ⟨g10, 0, none⟩)) e72 rfl ?_
    exact WL.nil ⟨rfl, _, rfl, rfl, hs.cutG 0 0⟩ }
    {
    intro ρ w Γx Λx hs hu hp
    have e73 : ρ 45 = .pointer (some ⟨g10, 0, none⟩) := (hp 1 rfl).1
    refine WL.fieldAddr (m := 2) e73 FA80_2 rfl ?_
    exact WL.nil ⟨rfl, _, rfl, rfl, hs.cutG 0 0⟩ }
    {
    intro ρ w Γx Λx hs hu hp
    have e74 : ρ 46 = .pointer (some ⟨g10, 2, none⟩) := (hp 2 rfl).1
    refine WL.load1 (v := .map (some g43)) hs (Λx.length + 0) (getApp rfl) TI78 e74 rfl ?_
    exact WL.nil ⟨rfl, _, rfl, rfl, hs.cutG 0 0⟩ }
    {
    intro ρ w Γx Λx hs hu hp
    refine WL.fieldAddr (m := 0) ((hu 5 rfl).trans h65_5) FA35_0 rfl ?_
    exact WL.nil ⟨rfl, _, rfl, rfl, hs.cutG 0 0⟩ }
    {
    intro ρ w Γx Λx hs hu hp
    have e75 : ρ 48 = .pointer (some ⟨g37, 0, none⟩) := (hp 4 rfl).1
    refine WL.loadF (z := x32.Process) F_history_Operation_Process hs (Λx.length + 3) (getApp rfl) (Γx.length + 1) (getApp rfl) rfl TI3 (.inr rfl) e75 rfl (fun v67 hs => ?_)
    obtain rfl := hs.int 0 rfl
    exact WL.nil ⟨rfl, _, rfl, rfl, hs.cutG 0 1⟩ }
    {
    intro ρ w Γx Λx hs hu hp
    refine WL.move (v := .pointer (some ⟨g10, 0, none⟩)) ((hu 3 rfl).trans h65_3) ?_
    exact WL.nil ⟨rfl, _, rfl, rfl, hs.cutG 0 0⟩ }
    {
    intro ρ w Γx Λx hs hu hp
    have e76 : ρ 50 = .pointer (some ⟨g10, 0, none⟩) := (hp 6 rfl).1
    refine WL.nilCheck (v := .pointer (some ⟨g10, 0, none⟩)) e76 rfl ?_
    exact WL.nil ⟨rfl, _, rfl, rfl, hs.cutG 0 0⟩ }
    {
    intro ρ w Γx Λx hs hu hp
    have e77 : ρ 51 = .pointer (some ⟨g10, 0, none⟩) := (hp 7 rfl).1
    refine WL.fieldAddr (m := 2) e77 FA80_2 rfl ?_
    exact WL.nil ⟨rfl, _, rfl, rfl, hs.cutG 0 0⟩ }
    {
    intro ρ w Γx Λx hs hu hp
    have e78 : ρ 52 = .pointer (some ⟨g10, 2, none⟩) := (hp 8 rfl).1
    refine WL.load1 (v := .map (some g43)) hs (Λx.length + 0) (getApp rfl) TI78 e78 rfl ?_
    exact WL.nil ⟨rfl, _, rfl, rfl, hs.cutG 0 0⟩ }
    {
    intro ρ w Γx Λx hs hu hp
    refine WL.fieldAddr (m := 0) ((hu 5 rfl).trans h65_5) FA35_0 rfl ?_
    exact WL.nil ⟨rfl, _, rfl, rfl, hs.cutG 0 0⟩ }
    {
    intro ρ w Γx Λx hs hu hp
    have e79 : ρ 54 = .pointer (some ⟨g37, 0, none⟩) := (hp 10 rfl).1
    refine WL.loadF (z := x32.Process) F_history_Operation_Process hs (Λx.length + 3) (getApp rfl) (Γx.length + 1) (getApp rfl) rfl TI3 (.inr rfl) e79 rfl (fun v68 hs => ?_)
    obtain rfl := hs.int 0 rfl
    exact WL.nil ⟨rfl, _, rfl, rfl, hs.cutG 0 1⟩ }
    {
    intro ρ w Γx Λx hs hu hp
    have e80 : ρ 53 = .map (some g43) := (hp 9 rfl).1
    have e81 : ρ 55 = .int .i64 x32.Process := (hp 11 rfl).1
    refine WL.lookup (a := x32.Process) (z0 := 0) hs (Λx.length + 2) (getApp rfl) (kkInt UN3) UN78 e80 e81 ZR3 (fun _ _ => ⟨[.int .i64 0], rfl, rfl⟩) exx69 (fun v70 hs => ?_)
    obtain rfl := hs.int 0 rfl
    exact WL.nil ⟨rfl, _, rfl, rfl, hs.cutG 0 1⟩ }
    {
    intro ρ w Γx Λx hs hu hp
    refine WL.fieldAddr (m := 5) ((hu 5 rfl).trans h65_5) FA35_5 rfl ?_
    exact WL.nil ⟨rfl, _, rfl, rfl, hs.cutG 0 0⟩ }
    {
    intro ρ w Γx Λx hs hu hp
    have e82 : ρ 57 = .pointer (some ⟨g37, 5, none⟩) := (hp 13 rfl).1
    refine WL.loadF (z := x32.Return) F_history_Operation_Return hs (Λx.length + 3) (getApp rfl) (Γx.length + 1) (getApp rfl) rfl TI3 (.inr rfl) e82 rfl (fun v71 hs => ?_)
    obtain rfl := hs.int 0 rfl
    exact WL.nil ⟨rfl, _, rfl, rfl, hs.cutG 0 1⟩ }
    {
    intro ρ w Γx Λx hs hu hp
    have e83 : ρ 56 = .int .i64 x69 := (hp 12 rfl).1
    have e84 : ρ 58 = .int .i64 x32.Return := (hp 14 rfl).1
    refine WL.max e83 e84 ?_
    exact WL.nil ⟨rfl, _, rfl, rfl, hs.cutG 0 0⟩ }
    {
    intro ρ w hs hu85 hp
    obtain ⟨⟨⟨⟨⟨⟨⟨⟨⟨⟨⟨⟨⟨⟨⟨⟨_, hp0_⟩, hp1_⟩, hp2_⟩, hp3_⟩, hp4_⟩, hp5_⟩, hp6_⟩, hp7_⟩, hp8_⟩, hp9_⟩, hp10_⟩, hp11_⟩, hp12_⟩, hp13_⟩, hp14_⟩, hp15_⟩ := hp
    have hs : St ok (bz w0) w [vl (tSlice t_history_Operation) x1.Operations (.slice a17 (x1.Operations).length c18), vl t_history_Operation x32 (.agg cs35.toArray)] [blk g10 80 [.int .i64 x32.Call, .map (some g42), .map (some g43)], mapo (fun a : Int => .int .i64 a) tBool g42 x64, mapo (fun a : Int => .int .i64 a) (tInt .i64) g43 x41.f_returns, blk g37 35 cs35] := hs
    have e86 : ρ 59 = .int .i64 (maxI x69 x32.Return) := hp15_
    have e87 : ρ 58 = .int .i64 x32.Return := hp14_
    have e88 : ρ 57 = .pointer (some ⟨g37, 5, none⟩) := hp13_
    have e89 : ρ 56 = .int .i64 x69 := hp12_
    have e90 : ρ 55 = .int .i64 x32.Process := hp11_
    have e91 : ρ 54 = .pointer (some ⟨g37, 0, none⟩) := hp10_
    have e92 : ρ 53 = .map (some g43) := hp9_
    have e93 : ρ 52 = .pointer (some ⟨g10, 2, none⟩) := hp8_
    have e94 : ρ 51 = .pointer (some ⟨g10, 0, none⟩) := hp7_
    have e95 : ρ 50 = .pointer (some ⟨g10, 0, none⟩) := hp6_
    have e96 : ρ 49 = .int .i64 x32.Process := hp5_
    have e97 : ρ 48 = .pointer (some ⟨g37, 0, none⟩) := hp4_
    have e98 : ρ 47 = .map (some g43) := hp3_
    have e99 : ρ 46 = .pointer (some ⟨g10, 2, none⟩) := hp2_
    have e100 : ρ 45 = .pointer (some ⟨g10, 0, none⟩) := hp1_
    have e101 : ρ 44 = .pointer (some ⟨g10, 0, none⟩) := hp0_
    refine WA.step [16] (by kernel_rfl) (by simp) ⟨?_, trivial⟩
    obtain ⟨x102, exx102, hf⟩ := letE hf
    refine WL.mapUpdate (a := x32.Process) (y := (maxI x69 x32.Return)) (v := .int .i64 (maxI x69 x32.Return)) hs 2 rfl (kkInt UN3) UN78 e98 e96 e86 (fun ok hA => tInt_V.2 rfl) exx102 (fun w hs => ?_)
    refine WL.nil ⟨rfl, _, rfl, ?_⟩
    refine WA.done (by kernel_rfl) ?_
    refine hK30 _ _ ?_
    refine W.region ?_
    obtain ⟨x103, ex103, hf⟩ := letE hf
    refine WL.bin (v := .int .i64 x103) ((hu85 14 rfl).trans h65_14) rfl (ib_as ex103 (ib_add _ _ _)) ?_
    refine WL.move (v := .int .i64 x103) rfl ?_
    refine WL.nil ?_
    have hs := hs.front 1 rfl
    have hs := hs.front 2 rfl
    have hs := hs.front 2 rfl
    exact ⟨_, (Option.some.inj hf).symm, g42, g43, ((hu85 3 rfl).trans h65_3), ((hu85 12 rfl).trans h65_12), ((hu85 13 rfl).trans h65_13), rfl, (hs.mask [true, true, true]).pick [0]⟩ }
  refine W.seqK fun K104 hK104 => ?_
  refine W.region ?_
  refine WL.fieldAddr (m := 5) (hu55 5 rfl) FA35_5 rfl ?_
  refine WL.loadF (z := x32.Return) F_history_Operation_Return hs 3 rfl 1 rfl rfl TI3 (.inr rfl) rfl rfl (fun v105 hs => ?_)
  obtain rfl := hs.int 0 rfl
  refine WL.bin (v := .bool (x32.Return != 0)) rfl rfl (ib_neq _ _ _) ?_
  refine WL.nil ?_
  refine hK104 _ _ ?_
  rcases iteE hf with ⟨hc106, hf⟩ | ⟨hc106, hf⟩
  {
  refine W.cond_true (bool_tr rfl hc106) ?_
  refine W.any (by kernel_rfl) 6 1 [true, true, true, true, true, true, false] rfl rfl (poAt [pv (.pointer (some ⟨g10, 0, none⟩)), pv (.pointer (some ⟨g10, 0, none⟩)), pv (.pointer (some ⟨g10, 1, none⟩)), pv (.map (some g42)), pv (.pointer (some ⟨g37, 5, none⟩)), pv (.int .i64 x32.Return)]) (Λ := [blk g10 80 [.int .i64 x32.Call, .map (some g42), .map (some g43)], mapo (fun a : Int => .int .i64 a) tBool g42 x62, mapo (fun a : Int => .int .i64 a) (tInt .i64) g43 x41.f_returns, blk g37 35 cs35]) hs (by kernel_rfl) (by kernel_rfl) (by kernel_rfl) ⟨⟨⟨⟨⟨⟨trivial, ?_⟩, ?_⟩, ?_⟩, ?_⟩, ?_⟩, ?_⟩ ?_
  {
  intro ρ w Γx Λx hs hu hp
  refine WL.move (v := .pointer (some ⟨g10, 0, none⟩)) ((hu 3 rfl).trans ((hu55 3 rfl).trans h19_3)) ?_
  exact WL.nil ⟨rfl, _, rfl, rfl, hs.cutG 0 0⟩ }
  {
  intro ρ w Γx Λx hs hu hp
  have e108 : ρ 38 = .pointer (some ⟨g10, 0, none⟩) := (hp 0 rfl).1
  refine WL.nilCheck (v := .pointer (some ⟨g10, 0, none⟩)) e108 rfl ?_
  exact WL.nil ⟨rfl, _, rfl, rfl, hs.cutG 0 0⟩ }
  {
  intro ρ w Γx Λx hs hu hp
  have e109 : ρ 39 = .pointer (some ⟨g10, 0, none⟩) := (hp 1 rfl).1
  refine WL.fieldAddr (m := 1) e109 FA80_1 rfl ?_
  exact WL.nil ⟨rfl, _, rfl, rfl, hs.cutG 0 0⟩ }
  {
  intro ρ w Γx Λx hs hu hp
  have e110 : ρ 40 = .pointer (some ⟨g10, 1, none⟩) := (hp 2 rfl).1
  refine WL.load1 (v := .map (some g42)) hs (Λx.length + 0) (getApp rfl) TI77 e110 rfl ?_
  exact WL.nil ⟨rfl, _, rfl, rfl, hs.cutG 0 0⟩ }
  {
  intro ρ w Γx Λx hs hu hp
  refine WL.fieldAddr (m := 5) ((hu 5 rfl).trans (hu55 5 rfl)) FA35_5 rfl ?_
  exact WL.nil ⟨rfl, _, rfl, rfl, hs.cutG 0 0⟩ }
  {
  intro ρ w Γx Λx hs hu hp
  have e111 : ρ 42 = .pointer (some ⟨g37, 5, none⟩) := (hp 4 rfl).1
  refine WL.loadF (z := x32.Return) F_history_Operation_Return hs (Λx.length + 3) (getApp rfl) (Γx.length + 2) (getApp rfl) rfl TI3 (.inr rfl) e111 rfl (fun v107 hs => ?_)
  obtain rfl := hs.int 0 rfl
  exact WL.nil ⟨rfl, _, rfl, rfl, hs.cutG 0 1⟩ }
  {
  intro ρ w hs hu112 hp
  obtain ⟨⟨⟨⟨⟨⟨_, hp0_⟩, hp1_⟩, hp2_⟩, hp3_⟩, hp4_⟩, hp5_⟩ := hp
  have hs : St ok (bz w0) w [vl (tInt .i64) x32.Return (.int .i64 x32.Return), vl (tInt .i64) x32.Call (.int .i64 x32.Call), vl t_history_Operation x32 (.agg cs35.toArray), pl t_history_Operation x32 ad33, vl (tSlice t_history_Operation) x1.Operations (.slice a17 (x1.Operations).length c18)] [blk g10 80 [.int .i64 x32.Call, .map (some g42), .map (some g43)], mapo (fun a : Int => .int .i64 a) tBool g42 x62, mapo (fun a : Int => .int .i64 a) (tInt .i64) g43 x41.f_returns, blk g37 35 cs35] := hs
  have e113 : ρ 43 = .int .i64 x32.Return := hp5_
  have e114 : ρ 42 = .pointer (some ⟨g37, 5, none⟩) := hp4_
  have e115 : ρ 41 = .map (some g42) := hp3_
  have e116 : ρ 40 = .pointer (some ⟨g10, 1, none⟩) := hp2_
  have e117 : ρ 39 = .pointer (some ⟨g10, 0, none⟩) := hp1_
  have e118 : ρ 38 = .pointer (some ⟨g10, 0, none⟩) := hp0_
  refine WA.step [6] (by kernel_rfl) (by simp) ⟨?_, trivial⟩
  obtain ⟨x119, exx119, hf⟩ := letE hf
  refine WL.mapUpdate (a := x32.Return) (y := true) (v := .bool true) hs 1 rfl (kkInt UN3) UN77 e115 e113 rfl (fun ok hA => tBool_V.2 rfl) exx119 (fun w hs => ?_)
  refine WL.nil ⟨rfl, _, rfl, ?_⟩
  refine WA.done (by kernel_rfl) ?_
  exact Jk66 x119 _ _ ((hu112 3 rfl).trans ((hu55 3 rfl).trans h19_3)) ((hu112 5 rfl).trans (hu55 5 rfl)) ((hu112 12 rfl).trans ((hu55 12 rfl).trans h19_12)) ((hu112 13 rfl).trans ((hu55 13 rfl).trans h19_13)) ((hu112 14 rfl).trans ((hu55 14 rfl).trans h19_14)) ((hs.mask [true, true, true, true]).pick [4, 2]) hf } }
  {
  refine W.cond_false (bool_tr rfl hc106) ?_
  refine W.skip ?_
  exact Jk66 x62 _ _ ((hu55 3 rfl).trans h19_3) (hu55 5 rfl) ((hu55 12 rfl).trans h19_12) ((hu55 13 rfl).trans h19_13) ((hu55 14 rfl).trans h19_14) ((hs.mask [true, true, true, true]).pick [4, 2]) hf } } } }
  {
  refine W.cond_false (bool_tr rfl hc29) ?_
  refine W.exit ?_
  have hr := Option.some.inj hf; subst hr
  have hr := hbbs26 _ rfl; subst hr
  have hf := hfs26
  exact Jk13  _ _  ((hs.mask []).pick []) hf }
theorem history_inRange.calls {ok : Nat → Prop} {w0 : World} {x1 : history_History} {x5 : Int} {v2 : Value} {r : Bool} (hf : history_inRange x1 x5 = some r) (i0 : (vl t_history_History x1 v2).holds ok w0) :
    Calls Try.prog 41 #[v2, .int .i64 x5] w0 fun e w' => ∃ v, e = .returned v ∧ ∃ y : Unit, v = .bool r ∧ St ok (bz w0) w' [] [] := by
  unfold history_inRange at hf
  refine calls_of_W (fn := Try.f41) (N := 14) Try.func41 rfl Try.ntmps41 rfl ?_
  have hs : St ok (bz w0) w0 [vl t_history_History x1 v2] [] := St.init (All.cons i0 All.nil)
  clear i0
  obtain ⟨cs3, hl4, rfl⟩ := hs.aggv (n := 1) 0 rfl rfl rfl
  refine W.seqK fun K6 hK6 => ?_
  refine W.region ?_
  refine WL.box (vs := cs3) hs rfl rfl (fun g7 w hs => ?_)
  refine WL.assign (v := .bool false) rfl ?_
  refine WL.nil ?_
  refine hK6 _ _ ?_
  refine W.seqK fun K8 hK8 => ?_
  have Jk11 : ∀ (x10 : Bool) (ρ : Env) (w : World), ρ 4 = .bool x10 → St ok (bz w0) w [] [] → history_inRange.j1 x10 = some r → K8 ρ w := by
    intro x10 ρ w h9_4 hs hf
    refine hK8 _ _ ?_
    unfold history_inRange.j1 at hf
    refine W.ret ?_
    have hr := Option.some.inj hf; subst hr
    exact ⟨_, resOk_one rfl h9_4, (), rfl, (hs.mask []).pick []⟩
  refine W.region ?_
  refine WL.move (v := .int .i64 x5) rfl ?_
  refine WL.bin (v := .bool (decide (0 ≤ x5))) rfl rfl (ib_geq _ _ _) ?_
  refine WL.move (v := .bool (decide (0 ≤ x5))) rfl ?_
  rcases iteE hf with ⟨hc12, hf⟩ | ⟨hc12, hf⟩
  {
  refine WL.move (v := .int .i64 x5) rfl ?_ (hg := (wanted_of rfl rfl (bool_tr rfl hc12)).trans rfl)
  refine WL.fieldAddr (m := 0) rfl FA24_0 rfl ?_ (hg := (wanted_of rfl rfl (bool_tr rfl hc12)).trans rfl)
  refine WL.loadF (z := x1.Operations) F_history_History_Operations hs 0 rfl 0 rfl rfl TI22 (.inr rfl) rfl rfl (fun v13 hs => ?_) (hg := (wanted_of rfl rfl (bool_tr rfl hc12)).trans rfl)
  obtain ⟨a14, c15, rfl⟩ := hs.slice 0 rfl
  refine WL.len (v := .slice a14 (x1.Operations).length c15) rfl (len_slice UN22) ?_ (hg := (wanted_of rfl rfl (bool_tr rfl hc12)).trans rfl)
  refine WL.bin (v := .bool (decide (x5 < ((x1.Operations).length : Int)))) rfl rfl (ib_lss _ _ _) ?_ (hg := (wanted_of rfl rfl (bool_tr rfl hc12)).trans rfl)
  refine WL.pickT (v := .bool (decide (x5 < ((x1.Operations).length : Int)))) (bool_tr rfl hc12) rfl ?_
  refine WL.assign (v := .bool (decide (x5 < ((x1.Operations).length : Int)))) rfl ?_
  refine WL.nil ?_
  exact Jk11 (decide (x5 < ((x1.Operations).length : Int))) _ _ rfl ((hs.mask []).pick []) hf }
  {
  refine WL.pass ((wanted_of rfl rfl (bool_tr rfl hc12)).trans rfl) rfl ?_
  refine WL.pass ((wanted_of rfl rfl (bool_tr rfl hc12)).trans rfl) rfl ?_
  refine WL.pass ((wanted_of rfl rfl (bool_tr rfl hc12)).trans rfl) rfl ?_
  refine WL.pass ((wanted_of rfl rfl (bool_tr rfl hc12)).trans rfl) rfl ?_
  refine WL.pass ((wanted_of rfl rfl (bool_tr rfl hc12)).trans rfl) rfl ?_
  refine WL.pickF (v := .bool false) (bool_tr rfl hc12) rfl ?_
  refine WL.assign (v := .bool false) rfl ?_
  refine WL.nil ?_
  exact Jk11 false _ _ rfl ((hs.mask []).pick []) hf }
theorem history_precedes.calls {ok : Nat → Prop} {w0 : World} {x1 : history_Operation} {x5 : history_Operation} {v2 : Value} {v6 : Value} {r : Bool} (hf : history_precedes x1 x5 = some r) (i0 : (vl t_history_Operation x1 v2).holds ok w0) (i1 : (vl t_history_Operation x5 v6).holds ok w0) :
    Calls Try.prog 42 #[v2, v6] w0 fun e w' => ∃ v, e = .returned v ∧ ∃ y : Unit, v = .bool r ∧ St ok (bz w0) w' [] [] := by
  unfold history_precedes at hf
  refine calls_of_W (fn := Try.f42) (N := 15) Try.func42 rfl Try.ntmps42 rfl ?_
  have hs : St ok (bz w0) w0 [vl t_history_Operation x1 v2, vl t_history_Operation x5 v6] [] := St.init (All.cons i0 (All.cons i1 All.nil))
  clear i0 i1
  obtain ⟨cs3, hl4, rfl⟩ := hs.aggv (n := 6) 0 rfl rfl rfl
  obtain ⟨cs7, hl8, rfl⟩ := hs.aggv (n := 6) 1 rfl rfl rfl
  refine W.seqK fun K9 hK9 => ?_
  refine W.region ?_
  refine WL.box (vs := cs3) hs rfl rfl (fun g10 w hs => ?_)
  refine WL.box (vs := cs7) hs rfl rfl (fun g11 w hs => ?_)
  refine WL.assign (v := .bool false) rfl ?_
  refine WL.nil ?_
  refine hK9 _ _ ?_
  refine W.seqK fun K12 hK12 => ?_
  have Jk15 : ∀ (x14 : Bool) (ρ : Env) (w : World), ρ 4 = .bool x14 → St ok (bz w0) w [] [] → history_precedes.j1 x14 = some r → K12 ρ w := by
    intro x14 ρ w h13_4 hs hf
    refine hK12 _ _ ?_
    unfold history_precedes.j1 at hf
    refine W.ret ?_
    have hr := Option.some.inj hf; subst hr
    exact ⟨_, resOk_one rfl h13_4, (), rfl, (hs.mask []).pick []⟩
  refine W.region ?_
  refine WL.fieldAddr (m := 5) rfl FA35_5 rfl ?_
  refine WL.loadF (z := x1.Return) F_history_Operation_Return hs 1 rfl 0 rfl rfl TI3 (.inr rfl) rfl rfl (fun v16 hs => ?_)
  obtain rfl := hs.int 0 rfl
  refine WL.bin (v := .bool (x1.Return != 0)) rfl rfl (ib_neq _ _ _) ?_
  refine WL.move (v := .bool (x1.Return != 0)) rfl ?_
  rcases iteE hf with ⟨hc17, hf⟩ | ⟨hc17, hf⟩
  {
  refine WL.fieldAddr (m := 5) rfl FA35_5 rfl ?_ (hg := (wanted_of rfl rfl (bool_tr rfl hc17)).trans rfl)
  refine WL.loadF (z := x1.Return) F_history_Operation_Return hs 1 rfl 1 rfl rfl TI3 (.inr rfl) rfl rfl (fun v18 hs => ?_) (hg := (wanted_of rfl rfl (bool_tr rfl hc17)).trans rfl)
  obtain rfl := hs.int 0 rfl
  refine WL.fieldAddr (m := 4) rfl FA35_4 rfl ?_ (hg := (wanted_of rfl rfl (bool_tr rfl hc17)).trans rfl)
  refine WL.loadF (z := x5.Call) F_history_Operation_Call hs 0 rfl 3 rfl rfl TI3 (.inr rfl) rfl rfl (fun v19 hs => ?_) (hg := (wanted_of rfl rfl (bool_tr rfl hc17)).trans rfl)
  obtain rfl := hs.int 0 rfl
  refine WL.bin (v := .bool (decide (x1.Return < x5.Call))) rfl rfl (ib_lss _ _ _) ?_ (hg := (wanted_of rfl rfl (bool_tr rfl hc17)).trans rfl)
  refine WL.pickT (v := .bool (decide (x1.Return < x5.Call))) (bool_tr rfl hc17) rfl ?_
  refine WL.assign (v := .bool (decide (x1.Return < x5.Call))) rfl ?_
  refine WL.nil ?_
  exact Jk15 (decide (x1.Return < x5.Call)) _ _ rfl ((hs.mask []).pick []) hf }
  {
  refine WL.pass ((wanted_of rfl rfl (bool_tr rfl hc17)).trans rfl) rfl ?_
  refine WL.pass ((wanted_of rfl rfl (bool_tr rfl hc17)).trans rfl) rfl ?_
  refine WL.pass ((wanted_of rfl rfl (bool_tr rfl hc17)).trans rfl) rfl ?_
  refine WL.pass ((wanted_of rfl rfl (bool_tr rfl hc17)).trans rfl) rfl ?_
  refine WL.pass ((wanted_of rfl rfl (bool_tr rfl hc17)).trans rfl) rfl ?_
  refine WL.pickF (v := .bool false) (bool_tr rfl hc17) rfl ?_
  refine WL.assign (v := .bool false) rfl ?_
  refine WL.nil ?_
  exact Jk15 false _ _ rfl ((hs.mask []).pick []) hf }
theorem history_Precedes.calls {ok : Nat → Prop} {w0 : World} {x1 : history_History} {x5 : Int} {x6 : Int} {v2 : Value} {r : Bool} (hf : history_Precedes x1 x5 x6 = some r) (i0 : (vl t_history_History x1 v2).holds ok w0) :
    Calls Try.prog 15 #[v2, .int .i64 x5, .int .i64 x6] w0 fun e w' => ∃ v, e = .returned v ∧ ∃ y : Unit, v = .bool r ∧ St ok (bz w0) w' [] [] := by
  unfold history_Precedes at hf
  refine calls_of_W (fn := Try.f15) (N := 28) Try.func15 rfl Try.ntmps15 rfl ?_
  have hs : St ok (bz w0) w0 [vl t_history_History x1 v2] [] := St.init (All.cons i0 All.nil)
  clear i0
  obtain ⟨cs3, hl4, rfl⟩ := hs.aggv (n := 1) 0 rfl rfl rfl
  refine W.seqK fun K7 hK7 => ?_
  refine W.region ?_
  refine WL.box (vs := cs3) hs rfl rfl (fun g8 w hs => ?_)
  refine WL.assign (v := .bool false) rfl ?_
  refine WL.nil ?_
  refine hK7 _ _ ?_
  refine W.seqK fun K9 hK9 => ?_
  have Jk12 : ∀ (x11 : Bool) (ρ : Env) (w : World), ρ 6 = .bool x11 → St ok (bz w0) w [] [] → history_Precedes.j1 x11 = some r → K9 ρ w := by
    intro x11 ρ w h10_6 hs hf
    refine hK9 _ _ ?_
    unfold history_Precedes.j1 at hf
    refine W.ret ?_
    have hr := Option.some.inj hf; subst hr
    exact ⟨_, resOk_one rfl h10_6, (), rfl, (hs.mask []).pick []⟩
  obtain ⟨x13, hxx13, hf⟩ := bindE hf
  rcases iteE hf with ⟨hc14, hf⟩ | ⟨hc14, hf⟩
  {
  obtain ⟨x15, hxx15, hf⟩ := bindE hf
  rcases iteE hf with ⟨hc16, hf⟩ | ⟨hc16, hf⟩
  {
  obtain ⟨x20, hxx20, hf⟩ := bindE hf
  obtain ⟨x28, hxx28, hf⟩ := bindE hf
  obtain ⟨x33, hxx33, hf⟩ := bindE hf
  refine W.any (by kernel_rfl) 21 1 [true, true, true, true, true, true, true, true, true, true, true, true, true, true, true, true, true, true, true, true, true, false] rfl rfl (poAt [pv (.agg cs3.toArray), pv (.int .i64 x5), pv (.bool x13), pv (.bool x13), pv (.agg cs3.toArray), pv (.int .i64 x6), pv (.bool x15), pv (.bool x15), pv (.bool x15), pv (.pointer (some ⟨g8, 0, none⟩)), pq (fun y : (Option Addr × Nat) => .slice y.1 (x1.Operations).length y.2) (fun v => [vl (tSlice t_history_Operation) x1.Operations v]) (fun v => []), pv (.int .i64 x5), pq (fun y : Addr => .pointer (some y)) (fun v => [pl t_history_Operation x20 (adOf v)]) (fun v => []), pq (fun y : List Value => .agg y.toArray) (fun v => [vl t_history_Operation x20 v]) (fun v => []), pv (.pointer (some ⟨g8, 0, none⟩)), pq (fun y : (Option Addr × Nat) => .slice y.1 (x1.Operations).length y.2) (fun v => [vl (tSlice t_history_Operation) x1.Operations v]) (fun v => []), pv (.int .i64 x6), pq (fun y : Addr => .pointer (some y)) (fun v => [pl t_history_Operation x28 (adOf v)]) (fun v => []), pq (fun y : List Value => .agg y.toArray) (fun v => [vl t_history_Operation x28 v]) (fun v => []), pv (.bool x33), pv (.bool x33)]) (Λ := [blk g8 24 cs3]) hs (by kernel_rfl) (by kernel_rfl) (by kernel_rfl) ⟨⟨⟨⟨⟨⟨⟨⟨⟨⟨⟨⟨⟨⟨⟨⟨⟨⟨⟨⟨⟨trivial, ?_⟩, ?_⟩, ?_⟩, ?_⟩, ?_⟩, ?_⟩, ?_⟩, ?_⟩, ?_⟩, ?_⟩, ?_⟩, ?_⟩, ?_⟩, ?_⟩, ?_⟩, ?_⟩, ?_⟩, ?_⟩, ?_⟩, ?_⟩, ?_⟩ ?_
  {
  intro ρ w Γx Λx hs hu hp
  refine WL.loadAll hs (Λx.length + 0) (getApp rfl) TI24 (hu 3 rfl) hl4 ?_
  exact WL.nil ⟨rfl, _, rfl, rfl, hs.cutG 0 0⟩ }
  {
  intro ρ w Γx Λx hs hu hp
  refine WL.move (v := .int .i64 x5) (hu 1 rfl) ?_
  exact WL.nil ⟨rfl, _, rfl, rfl, hs.cutG 0 0⟩ }
  {
  intro ρ w Γx Λx hs hu hp
  have e34 : ρ 7 = .agg cs3.toArray := (hp 0 rfl).1
  have e35 : ρ 8 = .int .i64 x5 := (hp 1 rfl).1
  refine WL.call (vs := [.agg cs3.toArray, .int .i64 x5]) hs FN41 ⟨e34, ⟨e35, trivial⟩⟩ (fun ok hA => history_inRange.calls (x1 := x1) (x5 := x5) hxx13 (hA.get (Γx.length + 0) (getApp rfl))) ?_
  rintro _ w hs
  exact WL.nil ⟨rfl, _, rfl, rfl, hs.cutG 0 0⟩ }
  {
  intro ρ w Γx Λx hs hu hp
  have e36 : ρ 9 = .bool x13 := (hp 2 rfl).1
  refine WL.move (v := .bool x13) e36 ?_
  exact WL.nil ⟨rfl, _, rfl, rfl, hs.cutG 0 0⟩ }
  {
  intro ρ w Γx Λx hs hu hp
  have e37 : ρ 10 = .bool x13 := (hp 3 rfl).1
  refine WL.loadAll hs (Λx.length + 0) (getApp rfl) TI24 (hu 3 rfl) hl4 ?_ (hg := (wanted_of rfl rfl (bool_tr e37 hc14)).trans rfl)
  exact WL.nil ⟨rfl, _, rfl, rfl, hs.cutG 0 0⟩ }
  {
  intro ρ w Γx Λx hs hu hp
  have e38 : ρ 10 = .bool x13 := (hp 3 rfl).1
  refine WL.move (v := .int .i64 x6) (hu 2 rfl) ?_ (hg := (wanted_of rfl rfl (bool_tr e38 hc14)).trans rfl)
  exact WL.nil ⟨rfl, _, rfl, rfl, hs.cutG 0 0⟩ }
  {
  intro ρ w Γx Λx hs hu hp
  have e39 : ρ 11 = .agg cs3.toArray := (hp 4 rfl).1
  have e40 : ρ 12 = .int .i64 x6 := (hp 5 rfl).1
  have e41 : ρ 10 = .bool x13 := (hp 3 rfl).1
  refine WL.call (vs := [.agg cs3.toArray, .int .i64 x6]) hs FN41 ⟨e39, ⟨e40, trivial⟩⟩ (fun ok hA => history_inRange.calls (x1 := x1) (x5 := x6) hxx15 (hA.get (Γx.length + 0) (getApp rfl))) ?_ (hg := (wanted_of rfl rfl (bool_tr e41 hc14)).trans rfl)
  rintro _ w hs
  exact WL.nil ⟨rfl, _, rfl, rfl, hs.cutG 0 0⟩ }
  {
  intro ρ w Γx Λx hs hu hp
  have e42 : ρ 10 = .bool x13 := (hp 3 rfl).1
  have e43 : ρ 13 = .bool x15 := (hp 6 rfl).1
  refine WL.pickT (v := .bool x15) (bool_tr e42 hc14) e43 ?_
  exact WL.nil ⟨rfl, _, rfl, rfl, hs.cutG 0 0⟩ }
  {
  intro ρ w Γx Λx hs hu hp
  have e44 : ρ 14 = .bool x15 := (hp 7 rfl).1
  refine WL.move (v := .bool x15) e44 ?_
  exact WL.nil ⟨rfl, _, rfl, rfl, hs.cutG 0 0⟩ }
  {
  intro ρ w Γx Λx hs hu hp
  have e45 : ρ 15 = .bool x15 := (hp 8 rfl).1
  refine WL.fieldAddr (m := 0) (hu 3 rfl) FA24_0 rfl ?_ (hg := (wanted_of rfl rfl (bool_tr e45 hc16)).trans rfl)
  exact WL.nil ⟨rfl, _, rfl, rfl, hs.cutG 0 0⟩ }
  {
  intro ρ w Γx Λx hs hu hp
  have e46 : ρ 16 = .pointer (some ⟨g8, 0, none⟩) := (hp 9 rfl).1
  have e47 : ρ 15 = .bool x15 := (hp 8 rfl).1
  refine WL.loadF (z := x1.Operations) F_history_History_Operations hs (Λx.length + 0) (getApp rfl) (Γx.length + 0) (getApp rfl) rfl TI22 (.inr rfl) e46 rfl (fun v17 hs => ?_) (hg := (wanted_of rfl rfl (bool_tr e47 hc16)).trans rfl)
  obtain ⟨a18, c19, rfl⟩ := hs.slice 0 rfl
  have hs := hs.add (it := vl (tSlice t_history_Operation) x1.Operations (.slice a18 (x1.Operations).length c19)) fun ok hA => hA.get 0 rfl
  exact WL.nil ⟨rfl, _, rfl, ⟨(a18, c19), rfl⟩, hs.cutG 1 1⟩ }
  {
  intro ρ w Γx Λx hs hu hp
  have e48 : ρ 15 = .bool x15 := (hp 8 rfl).1
  refine WL.move (v := .int .i64 x5) (hu 1 rfl) ?_ (hg := (wanted_of rfl rfl (bool_tr e48 hc16)).trans rfl)
  exact WL.nil ⟨rfl, _, rfl, rfl, hs.cutG 0 0⟩ }
  {
  intro ρ w Γx Λx hs hu hp
  obtain ⟨⟨⟨a49, c50⟩, e51r⟩, hm52⟩ := hp 10 rfl
  have e51 : ρ 17 = .slice a49 (x1.Operations).length c50 := e51r
  rw [e51r] at hm52
  have hs := hs.memo1 (it := vl (tSlice t_history_Operation) x1.Operations (.slice a49 (x1.Operations).length c50)) (List.mem_append.2 (.inl (hm52 _ (List.mem_of_getElem? (i := 0) rfl))))
  have e53 : ρ 18 = .int .i64 x5 := (hp 11 rfl).1
  have e54 : ρ 15 = .bool x15 := (hp 8 rfl).1
  refine WL.indexAddr hs 0 rfl UN22 TI35 e51 e53 hxx20 (fun ad21 hs => ?_) (hg := (wanted_of rfl rfl (bool_tr e54 hc16)).trans rfl)
  have hs := hs.add (it := pl t_history_Operation x20 ad21) fun ok hA => hA.get 0 rfl
  exact WL.nil ⟨rfl, _, rfl, ⟨ad21, rfl⟩, hs.cutG 1 2⟩ }
  {
  intro ρ w Γx Λx hs hu hp
  obtain ⟨⟨ad55, e56r⟩, hm57⟩ := hp 12 rfl
  have e56 : ρ 19 = .pointer (some ad55) := e56r
  rw [e56r] at hm57
  have hs := hs.memo1 (it := pl t_history_Operation x20 ad55) (List.mem_append.2 (.inl (hm57 _ (List.mem_of_getElem? (i := 0) rfl))))
  have e58 : ρ 15 = .bool x15 := (hp 8 rfl).1
  refine WL.loadP hs 0 rfl TI35 (.inl rfl) e56 (fun v22 hs => ?_) (hg := (wanted_of rfl rfl (bool_tr e58 hc16)).trans rfl)
  obtain ⟨cs23, hl24, rfl⟩ := hs.aggv (n := 6) 0 rfl rfl rfl
  have hs := hs.add (it := vl t_history_Operation x20 (.agg cs23.toArray)) fun ok hA => hA.get 0 rfl
  exact WL.nil ⟨rfl, _, rfl, ⟨cs23, rfl⟩, hs.cutG 1 2⟩ }
  {
  intro ρ w Γx Λx hs hu hp
  have e59 : ρ 15 = .bool x15 := (hp 8 rfl).1
  refine WL.fieldAddr (m := 0) (hu 3 rfl) FA24_0 rfl ?_ (hg := (wanted_of rfl rfl (bool_tr e59 hc16)).trans rfl)
  exact WL.nil ⟨rfl, _, rfl, rfl, hs.cutG 0 0⟩ }
  {
  intro ρ w Γx Λx hs hu hp
  have e60 : ρ 21 = .pointer (some ⟨g8, 0, none⟩) := (hp 14 rfl).1
  have e61 : ρ 15 = .bool x15 := (hp 8 rfl).1
  refine WL.loadF (z := x1.Operations) F_history_History_Operations hs (Λx.length + 0) (getApp rfl) (Γx.length + 0) (getApp rfl) rfl TI22 (.inr rfl) e60 rfl (fun v25 hs => ?_) (hg := (wanted_of rfl rfl (bool_tr e61 hc16)).trans rfl)
  obtain ⟨a26, c27, rfl⟩ := hs.slice 0 rfl
  have hs := hs.add (it := vl (tSlice t_history_Operation) x1.Operations (.slice a26 (x1.Operations).length c27)) fun ok hA => hA.get 0 rfl
  exact WL.nil ⟨rfl, _, rfl, ⟨(a26, c27), rfl⟩, hs.cutG 1 1⟩ }
  {
  intro ρ w Γx Λx hs hu hp
  have e62 : ρ 15 = .bool x15 := (hp 8 rfl).1
  refine WL.move (v := .int .i64 x6) (hu 2 rfl) ?_ (hg := (wanted_of rfl rfl (bool_tr e62 hc16)).trans rfl)
  exact WL.nil ⟨rfl, _, rfl, rfl, hs.cutG 0 0⟩ }
  {
  intro ρ w Γx Λx hs hu hp
  obtain ⟨⟨⟨a63, c64⟩, e65r⟩, hm66⟩ := hp 15 rfl
  have e65 : ρ 22 = .slice a63 (x1.Operations).length c64 := e65r
  rw [e65r] at hm66
  have hs := hs.memo1 (it := vl (tSlice t_history_Operation) x1.Operations (.slice a63 (x1.Operations).length c64)) (List.mem_append.2 (.inl (hm66 _ (List.mem_of_getElem? (i := 0) rfl))))
  have e67 : ρ 23 = .int .i64 x6 := (hp 16 rfl).1
  have e68 : ρ 15 = .bool x15 := (hp 8 rfl).1
  refine WL.indexAddr hs 0 rfl UN22 TI35 e65 e67 hxx28 (fun ad29 hs => ?_) (hg := (wanted_of rfl rfl (bool_tr e68 hc16)).trans rfl)
  have hs := hs.add (it := pl t_history_Operation x28 ad29) fun ok hA => hA.get 0 rfl
  exact WL.nil ⟨rfl, _, rfl, ⟨ad29, rfl⟩, hs.cutG 1 2⟩ }
  {
  intro ρ w Γx Λx hs hu hp
  obtain ⟨⟨ad69, e70r⟩, hm71⟩ := hp 17 rfl
  have e70 : ρ 24 = .pointer (some ad69) := e70r
  rw [e70r] at hm71
  have hs := hs.memo1 (it := pl t_history_Operation x28 ad69) (List.mem_append.2 (.inl (hm71 _ (List.mem_of_getElem? (i := 0) rfl))))
  have e72 : ρ 15 = .bool x15 := (hp 8 rfl).1
  refine WL.loadP hs 0 rfl TI35 (.inl rfl) e70 (fun v30 hs => ?_) (hg := (wanted_of rfl rfl (bool_tr e72 hc16)).trans rfl)
  obtain ⟨cs31, hl32, rfl⟩ := hs.aggv (n := 6) 0 rfl rfl rfl
  have hs := hs.add (it := vl t_history_Operation x28 (.agg cs31.toArray)) fun ok hA => hA.get 0 rfl
  exact WL.nil ⟨rfl, _, rfl, ⟨cs31, rfl⟩, hs.cutG 1 2⟩ }
  {
  intro ρ w Γx Λx hs hu hp
  obtain ⟨⟨cs73, e75r⟩, hm76⟩ := hp 13 rfl
  have e75 : ρ 20 = .agg cs73.toArray := e75r
  rw [e75r] at hm76
  have hs := hs.memo1 (it := vl t_history_Operation x20 (.agg cs73.toArray)) (List.mem_append.2 (.inl (hm76 _ (List.mem_of_getElem? (i := 0) rfl))))
  have hl74 := hs.agglen (n := 6) 0 rfl rfl rfl
  obtain ⟨⟨cs77, e79r⟩, hm80⟩ := hp 18 rfl
  have e79 : ρ 25 = .agg cs77.toArray := e79r
  rw [e79r] at hm80
  have hs := hs.memo1 (it := vl t_history_Operation x28 (.agg cs77.toArray)) (List.mem_cons_of_mem _ (List.mem_append.2 (.inl (hm80 _ (List.mem_of_getElem? (i := 0) rfl)))))
  have hl78 := hs.agglen (n := 6) 0 rfl rfl rfl
  have e81 : ρ 15 = .bool x15 := (hp 8 rfl).1
  refine WL.call (vs := [.agg cs73.toArray, .agg cs77.toArray]) hs FN42 ⟨e75, ⟨e79, trivial⟩⟩ (fun ok hA => history_precedes.calls (x1 := x20) (x5 := x28) hxx33 (hA.get 1 rfl) (hA.get 0 rfl)) ?_ (hg := (wanted_of rfl rfl (bool_tr e81 hc16)).trans rfl)
  rintro _ w hs
  exact WL.nil ⟨rfl, _, rfl, rfl, hs.cutG 0 2⟩ }
  {
  intro ρ w Γx Λx hs hu hp
  have e82 : ρ 15 = .bool x15 := (hp 8 rfl).1
  have e83 : ρ 26 = .bool x33 := (hp 19 rfl).1
  refine WL.pickT (v := .bool x33) (bool_tr e82 hc16) e83 ?_
  exact WL.nil ⟨rfl, _, rfl, rfl, hs.cutG 0 0⟩ }
  {
  intro ρ w hs hu84 hp
  obtain ⟨⟨⟨⟨⟨⟨⟨⟨⟨⟨⟨⟨⟨⟨⟨⟨⟨⟨⟨⟨⟨_, hp0_⟩, hp1_⟩, hp2_⟩, hp3_⟩, hp4_⟩, hp5_⟩, hp6_⟩, hp7_⟩, hp8_⟩, hp9_⟩, hp10_⟩, hp11_⟩, hp12_⟩, hp13_⟩, hp14_⟩, hp15_⟩, hp16_⟩, hp17_⟩, hp18_⟩, hp19_⟩, hp20_⟩ := hp
  have hs : St ok (bz w0) w [vl t_history_Operation x28 (ρ 25), pl t_history_Operation x28 (adOf (ρ 24)), vl (tSlice t_history_Operation) x1.Operations (ρ 22), vl t_history_Operation x20 (ρ 20), pl t_history_Operation x20 (adOf (ρ 19)), vl (tSlice t_history_Operation) x1.Operations (ρ 17), vl t_history_History x1 (.agg cs3.toArray)] [blk g8 24 cs3] := hs
  have e85 : ρ 27 = .bool x33 := hp20_
  have e86 : ρ 26 = .bool x33 := hp19_
  obtain ⟨cs87, e89⟩ := hp18_
  have e89 : ρ 25 = .agg cs87.toArray := e89
  try rw [e89] at hs
  obtain ⟨ad90, e91⟩ := hp17_
  have e91 : ρ 24 = .pointer (some ad90) := e91
  try rw [e91] at hs
  have e92 : ρ 23 = .int .i64 x6 := hp16_
  obtain ⟨⟨a93, c94⟩, e95⟩ := hp15_
  have e95 : ρ 22 = .slice a93 (x1.Operations).length c94 := e95
  try rw [e95] at hs
  have e96 : ρ 21 = .pointer (some ⟨g8, 0, none⟩) := hp14_
  obtain ⟨cs97, e99⟩ := hp13_
  have e99 : ρ 20 = .agg cs97.toArray := e99
  try rw [e99] at hs
  obtain ⟨ad100, e101⟩ := hp12_
  have e101 : ρ 19 = .pointer (some ad100) := e101
  try rw [e101] at hs
  have e102 : ρ 18 = .int .i64 x5 := hp11_
  obtain ⟨⟨a103, c104⟩, e105⟩ := hp10_
  have e105 : ρ 17 = .slice a103 (x1.Operations).length c104 := e105
  try rw [e105] at hs
  have e106 : ρ 16 = .pointer (some ⟨g8, 0, none⟩) := hp9_
  have e107 : ρ 15 = .bool x15 := hp8_
  have e108 : ρ 14 = .bool x15 := hp7_
  have e109 : ρ 13 = .bool x15 := hp6_
  have e110 : ρ 12 = .int .i64 x6 := hp5_
  have e111 : ρ 11 = .agg cs3.toArray := hp4_
  have e112 : ρ 10 = .bool x13 := hp3_
  have e113 : ρ 9 = .bool x13 := hp2_
  have e114 : ρ 8 = .int .i64 x5 := hp1_
  have e115 : ρ 7 = .agg cs3.toArray := hp0_
  have hl98 := hs.agglen (n := 6) 3 rfl rfl rfl
  have hl88 := hs.agglen (n := 6) 0 rfl rfl rfl
  refine WA.step [21] (by kernel_rfl) (by simp) ⟨?_, trivial⟩
  refine WL.assign (v := .bool x33) e85 ?_
  refine WL.nil ⟨rfl, _, rfl, ?_⟩
  refine WA.done (by kernel_rfl) ?_
  exact Jk12 x33 _ _ rfl ((hs.mask []).pick []) hf } }
  {
  refine W.any (by kernel_rfl) 21 1 [true, true, true, true, true, true, true, true, true, true, true, true, true, true, true, true, true, true, true, true, true, false] rfl rfl (poAt [pv (.agg cs3.toArray), pv (.int .i64 x5), pv (.bool x13), pv (.bool x13), pv (.agg cs3.toArray), pv (.int .i64 x6), pv (.bool x15), pv (.bool x15), pv (.bool x15), pv (undef), pv (undef), pv (undef), pv (undef), pv (undef), pv (undef), pv (undef), pv (undef), pv (undef), pv (undef), pv (undef), pv (.bool false)]) (Λ := [blk g8 24 cs3]) hs (by kernel_rfl) (by kernel_rfl) (by kernel_rfl) ⟨⟨⟨⟨⟨⟨⟨⟨⟨⟨⟨⟨⟨⟨⟨⟨⟨⟨⟨⟨⟨trivial, ?_⟩, ?_⟩, ?_⟩, ?_⟩, ?_⟩, ?_⟩, ?_⟩, ?_⟩, ?_⟩, ?_⟩, ?_⟩, ?_⟩, ?_⟩, ?_⟩, ?_⟩, ?_⟩, ?_⟩, ?_⟩, ?_⟩, ?_⟩, ?_⟩ ?_
  {
  intro ρ w Γx Λx hs hu hp
  refine WL.loadAll hs (Λx.length + 0) (getApp rfl) TI24 (hu 3 rfl) hl4 ?_
  exact WL.nil ⟨rfl, _, rfl, rfl, hs.cutG 0 0⟩ }
  {
  intro ρ w Γx Λx hs hu hp
  refine WL.move (v := .int .i64 x5) (hu 1 rfl) ?_
  exact WL.nil ⟨rfl, _, rfl, rfl, hs.cutG 0 0⟩ }
  {
  intro ρ w Γx Λx hs hu hp
  have e116 : ρ 7 = .agg cs3.toArray := (hp 0 rfl).1
  have e117 : ρ 8 = .int .i64 x5 := (hp 1 rfl).1
  refine WL.call (vs := [.agg cs3.toArray, .int .i64 x5]) hs FN41 ⟨e116, ⟨e117, trivial⟩⟩ (fun ok hA => history_inRange.calls (x1 := x1) (x5 := x5) hxx13 (hA.get (Γx.length + 0) (getApp rfl))) ?_
  rintro _ w hs
  exact WL.nil ⟨rfl, _, rfl, rfl, hs.cutG 0 0⟩ }
  {
  intro ρ w Γx Λx hs hu hp
  have e118 : ρ 9 = .bool x13 := (hp 2 rfl).1
  refine WL.move (v := .bool x13) e118 ?_
  exact WL.nil ⟨rfl, _, rfl, rfl, hs.cutG 0 0⟩ }
  {
  intro ρ w Γx Λx hs hu hp
  have e119 : ρ 10 = .bool x13 := (hp 3 rfl).1
  refine WL.loadAll hs (Λx.length + 0) (getApp rfl) TI24 (hu 3 rfl) hl4 ?_ (hg := (wanted_of rfl rfl (bool_tr e119 hc14)).trans rfl)
  exact WL.nil ⟨rfl, _, rfl, rfl, hs.cutG 0 0⟩ }
  {
  intro ρ w Γx Λx hs hu hp
  have e120 : ρ 10 = .bool x13 := (hp 3 rfl).1
  refine WL.move (v := .int .i64 x6) (hu 2 rfl) ?_ (hg := (wanted_of rfl rfl (bool_tr e120 hc14)).trans rfl)
  exact WL.nil ⟨rfl, _, rfl, rfl, hs.cutG 0 0⟩ }
  {
  intro ρ w Γx Λx hs hu hp
  have e121 : ρ 11 = .agg cs3.toArray := (hp 4 rfl).1
  have e122 : ρ 12 = .int .i64 x6 := (hp 5 rfl).1
  have e123 : ρ 10 = .bool x13 := (hp 3 rfl).1
  refine WL.call (vs := [.agg cs3.toArray, .int .i64 x6]) hs FN41 ⟨e121, ⟨e122, trivial⟩⟩ (fun ok hA => history_inRange.calls (x1 := x1) (x5 := x6) hxx15 (hA.get (Γx.length + 0) (getApp rfl))) ?_ (hg := (wanted_of rfl rfl (bool_tr e123 hc14)).trans rfl)
  rintro _ w hs
  exact WL.nil ⟨rfl, _, rfl, rfl, hs.cutG 0 0⟩ }
  {
  intro ρ w Γx Λx hs hu hp
  have e124 : ρ 10 = .bool x13 := (hp 3 rfl).1
  have e125 : ρ 13 = .bool x15 := (hp 6 rfl).1
  refine WL.pickT (v := .bool x15) (bool_tr e124 hc14) e125 ?_
  exact WL.nil ⟨rfl, _, rfl, rfl, hs.cutG 0 0⟩ }
  {
  intro ρ w Γx Λx hs hu hp
  have e126 : ρ 14 = .bool x15 := (hp 7 rfl).1
  refine WL.move (v := .bool x15) e126 ?_
  exact WL.nil ⟨rfl, _, rfl, rfl, hs.cutG 0 0⟩ }
  {
  intro ρ w Γx Λx hs hu hp
  have e127 : ρ 15 = .bool x15 := (hp 8 rfl).1
  refine WL.pass ((wanted_of rfl rfl (bool_tr e127 hc16)).trans rfl) rfl ?_
  exact WL.nil ⟨rfl, _, rfl, rfl, hs.cutG 0 0⟩ }
  {
  intro ρ w Γx Λx hs hu hp
  have e128 : ρ 16 = undef := (hp 9 rfl).1
  have e129 : ρ 15 = .bool x15 := (hp 8 rfl).1
  refine WL.pass ((wanted_of rfl rfl (bool_tr e129 hc16)).trans rfl) rfl ?_
  exact WL.nil ⟨rfl, _, rfl, rfl, hs.cutG 0 0⟩ }
  {
  intro ρ w Γx Λx hs hu hp
  have e130 : ρ 15 = .bool x15 := (hp 8 rfl).1
  refine WL.pass ((wanted_of rfl rfl (bool_tr e130 hc16)).trans rfl) rfl ?_
  exact WL.nil ⟨rfl, _, rfl, rfl, hs.cutG 0 0⟩ }
  {
  intro ρ w Γx Λx hs hu hp
  have e131 : ρ 17 = undef := (hp 10 rfl).1
  have e132 : ρ 18 = undef := (hp 11 rfl).1
  have e133 : ρ 15 = .bool x15 := (hp 8 rfl).1
  refine WL.pass ((wanted_of rfl rfl (bool_tr e133 hc16)).trans rfl) rfl ?_
  exact WL.nil ⟨rfl, _, rfl, rfl, hs.cutG 0 0⟩ }
  {
  intro ρ w Γx Λx hs hu hp
  have e134 : ρ 19 = undef := (hp 12 rfl).1
  have e135 : ρ 15 = .bool x15 := (hp 8 rfl).1
  refine WL.pass ((wanted_of rfl rfl (bool_tr e135 hc16)).trans rfl) rfl ?_
  exact WL.nil ⟨rfl, _, rfl, rfl, hs.cutG 0 0⟩ }
  {
  intro ρ w Γx Λx hs hu hp
  have e136 : ρ 15 = .bool x15 := (hp 8 rfl).1
  refine WL.pass ((wanted_of rfl rfl (bool_tr e136 hc16)).trans rfl) rfl ?_
  exact WL.nil ⟨rfl, _, rfl, rfl, hs.cutG 0 0⟩ }
  {
  intro ρ w Γx Λx hs hu hp
  have e137 : ρ 21 = undef := (hp 14 rfl).1
  have e138 : ρ 15 = .bool x15 := (hp 8 rfl).1
  refine WL.pass ((wanted_of rfl rfl (bool_tr e138 hc16)).trans rfl) rfl ?_
  exact WL.nil ⟨rfl, _, rfl, rfl, hs.cutG 0 0⟩ }
  {
  intro ρ w Γx Λx hs hu hp
  have e139 : ρ 15 = .bool x15 := (hp 8 rfl).1
  refine WL.pass ((wanted_of rfl rfl (bool_tr e139 hc16)).trans rfl) rfl ?_
  exact WL.nil ⟨rfl, _, rfl, rfl, hs.cutG 0 0⟩ }
  {
  intro ρ w Γx Λx hs hu hp
  have e140 : ρ 22 = undef := (hp 15 rfl).1
  have e141 : ρ 23 = undef := (hp 16 rfl).1
  have e142 : ρ 15 = .bool x15 := (hp 8 rfl).1
  refine WL.pass ((wanted_of rfl rfl (bool_tr e142 hc16)).trans rfl) rfl ?_
  exact WL.nil ⟨rfl, _, rfl, rfl, hs.cutG 0 0⟩ }
  {
  intro ρ w Γx Λx hs hu hp
  have e143 : ρ 24 = undef := (hp 17 rfl).1
  have e144 : ρ 15 = .bool x15 := (hp 8 rfl).1
  refine WL.pass ((wanted_of rfl rfl (bool_tr e144 hc16)).trans rfl) rfl ?_
  exact WL.nil ⟨rfl, _, rfl, rfl, hs.cutG 0 0⟩ }
  {
  intro ρ w Γx Λx hs hu hp
  have e145 : ρ 20 = undef := (hp 13 rfl).1
  have e146 : ρ 25 = undef := (hp 18 rfl).1
  have e147 : ρ 15 = .bool x15 := (hp 8 rfl).1
  refine WL.pass ((wanted_of rfl rfl (bool_tr e147 hc16)).trans rfl) rfl ?_
  exact WL.nil ⟨rfl, _, rfl, rfl, hs.cutG 0 0⟩ }
  {
  intro ρ w Γx Λx hs hu hp
  have e148 : ρ 15 = .bool x15 := (hp 8 rfl).1
  have e149 : ρ 26 = undef := (hp 19 rfl).1
  refine WL.pickF (v := .bool false) (bool_tr e148 hc16) rfl ?_
  exact WL.nil ⟨rfl, _, rfl, rfl, hs.cutG 0 0⟩ }
  {
  intro ρ w hs hu150 hp
  obtain ⟨⟨⟨⟨⟨⟨⟨⟨⟨⟨⟨⟨⟨⟨⟨⟨⟨⟨⟨⟨⟨_, hp0_⟩, hp1_⟩, hp2_⟩, hp3_⟩, hp4_⟩, hp5_⟩, hp6_⟩, hp7_⟩, hp8_⟩, hp9_⟩, hp10_⟩, hp11_⟩, hp12_⟩, hp13_⟩, hp14_⟩, hp15_⟩, hp16_⟩, hp17_⟩, hp18_⟩, hp19_⟩, hp20_⟩ := hp
  have hs : St ok (bz w0) w [vl t_history_History x1 (.agg cs3.toArray)] [blk g8 24 cs3] := hs
  have e151 : ρ 27 = .bool false := hp20_
  have e152 : ρ 26 = undef := hp19_
  have e153 : ρ 25 = undef := hp18_
  have e154 : ρ 24 = undef := hp17_
  have e155 : ρ 23 = undef := hp16_
  have e156 : ρ 22 = undef := hp15_
  have e157 : ρ 21 = undef := hp14_
  have e158 : ρ 20 = undef := hp13_
  have e159 : ρ 19 = undef := hp12_
  have e160 : ρ 18 = undef := hp11_
  have e161 : ρ 17 = undef := hp10_
  have e162 : ρ 16 = undef := hp9_
  have e163 : ρ 15 = .bool x15 := hp8_
  have e164 : ρ 14 = .bool x15 := hp7_
  have e165 : ρ 13 = .bool x15 := hp6_
  have e166 : ρ 12 = .int .i64 x6 := hp5_
  have e167 : ρ 11 = .agg cs3.toArray := hp4_
  have e168 : ρ 10 = .bool x13 := hp3_
  have e169 : ρ 9 = .bool x13 := hp2_
  have e170 : ρ 8 = .int .i64 x5 := hp1_
  have e171 : ρ 7 = .agg cs3.toArray := hp0_
  refine WA.step [21] (by kernel_rfl) (by simp) ⟨?_, trivial⟩
  refine WL.assign (v := .bool false) e151 ?_
  refine WL.nil ⟨rfl, _, rfl, ?_⟩
  refine WA.done (by kernel_rfl) ?_
  exact Jk12 false _ _ rfl ((hs.mask []).pick []) hf } } }
  {
  refine W.any (by kernel_rfl) 21 1 [true, true, true, true, true, true, true, true, true, true, true, true, true, true, true, true, true, true, true, true, true, false] rfl rfl (poAt [pv (.agg cs3.toArray), pv (.int .i64 x5), pv (.bool x13), pv (.bool x13), pv (undef), pv (undef), pv (undef), pv (.bool false), pv (.bool false), pv (undef), pv (undef), pv (undef), pv (undef), pv (undef), pv (undef), pv (undef), pv (undef), pv (undef), pv (undef), pv (undef), pv (.bool false)]) (Λ := [blk g8 24 cs3]) hs (by kernel_rfl) (by kernel_rfl) (by kernel_rfl) ⟨⟨⟨⟨⟨⟨⟨⟨⟨⟨⟨⟨⟨⟨⟨⟨⟨⟨⟨⟨⟨trivial, ?_⟩, ?_⟩, ?_⟩, ?_⟩, ?_⟩, ?_⟩, ?_⟩, ?_⟩, ?_⟩, ?_⟩, ?_⟩, ?_⟩, ?_⟩, ?_⟩, ?_⟩, ?_⟩, ?_⟩, ?_⟩, ?_⟩, ?_⟩, ?_⟩ ?_
  {
  intro ρ w Γx Λx hs hu hp
  refine WL.loadAll hs (Λx.length + 0) (getApp rfl) TI24 (hu 3 rfl) hl4 ?_
  exact WL.nil ⟨rfl, _, rfl, rfl, hs.cutG 0 0⟩ }
  {
  intro ρ w Γx Λx hs hu hp
  refine WL.move (v := .int .i64 x5) (hu 1 rfl) ?_
  exact WL.nil ⟨rfl, _, rfl, rfl, hs.cutG 0 0⟩ }
  {
  intro ρ w Γx Λx hs hu hp
  have e172 : ρ 7 = .agg cs3.toArray := (hp 0 rfl).1
  have e173 : ρ 8 = .int .i64 x5 := (hp 1 rfl).1
  refine WL.call (vs := [.agg cs3.toArray, .int .i64 x5]) hs FN41 ⟨e172, ⟨e173, trivial⟩⟩ (fun ok hA => history_inRange.calls (x1 := x1) (x5 := x5) hxx13 (hA.get (Γx.length + 0) (getApp rfl))) ?_
  rintro _ w hs
  exact WL.nil ⟨rfl, _, rfl, rfl, hs.cutG 0 0⟩ }
  {
  intro ρ w Γx Λx hs hu hp
  have e174 : ρ 9 = .bool x13 := (hp 2 rfl).1
  refine WL.move (v := .bool x13) e174 ?_
  exact WL.nil ⟨rfl, _, rfl, rfl, hs.cutG 0 0⟩ }
  {
  intro ρ w Γx Λx hs hu hp
  have e175 : ρ 10 = .bool x13 := (hp 3 rfl).1
  refine WL.pass ((wanted_of rfl rfl (bool_tr e175 hc14)).trans rfl) rfl ?_
  exact WL.nil ⟨rfl, _, rfl, rfl, hs.cutG 0 0⟩ }
  {
  intro ρ w Γx Λx hs hu hp
  have e176 : ρ 10 = .bool x13 := (hp 3 rfl).1
  refine WL.pass ((wanted_of rfl rfl (bool_tr e176 hc14)).trans rfl) rfl ?_
  exact WL.nil ⟨rfl, _, rfl, rfl, hs.cutG 0 0⟩ }
  {
  intro ρ w Γx Λx hs hu hp
  have e177 : ρ 11 = undef := (hp 4 rfl).1
  have e178 : ρ 12 = undef := (hp 5 rfl).1
  have e179 : ρ 10 = .bool x13 := (hp 3 rfl).1
  refine WL.pass ((wanted_of rfl rfl (bool_tr e179 hc14)).trans rfl) rfl ?_
  exact WL.nil ⟨rfl, _, rfl, rfl, hs.cutG 0 0⟩ }
  {
  intro ρ w Γx Λx hs hu hp
  have e180 : ρ 10 = .bool x13 := (hp 3 rfl).1
  have e181 : ρ 13 = undef := (hp 6 rfl).1
  refine WL.pickF (v := .bool false) (bool_tr e180 hc14) rfl ?_
  exact WL.nil ⟨rfl, _, rfl, rfl, hs.cutG 0 0⟩ }
  {
  intro ρ w Γx Λx hs hu hp
  have e182 : ρ 14 = .bool false := (hp 7 rfl).1
  refine WL.move (v := .bool false) e182 ?_
  exact WL.nil ⟨rfl, _, rfl, rfl, hs.cutG 0 0⟩ }
  {
  intro ρ w Γx Λx hs hu hp
  have e183 : ρ 15 = .bool false := (hp 8 rfl).1
  refine WL.pass ((wanted_of rfl rfl e183).trans rfl) rfl ?_
  exact WL.nil ⟨rfl, _, rfl, rfl, hs.cutG 0 0⟩ }
  {
  intro ρ w Γx Λx hs hu hp
  have e184 : ρ 16 = undef := (hp 9 rfl).1
  have e185 : ρ 15 = .bool false := (hp 8 rfl).1
  refine WL.pass ((wanted_of rfl rfl e185).trans rfl) rfl ?_
  exact WL.nil ⟨rfl, _, rfl, rfl, hs.cutG 0 0⟩ }
  {
  intro ρ w Γx Λx hs hu hp
  have e186 : ρ 15 = .bool false := (hp 8 rfl).1
  refine WL.pass ((wanted_of rfl rfl e186).trans rfl) rfl ?_
  exact WL.nil ⟨rfl, _, rfl, rfl, hs.cutG 0 0⟩ }
  {
  intro ρ w Γx Λx hs hu hp
  have e187 : ρ 17 = undef := (hp 10 rfl).1
  have e188 : ρ 18 = undef := (hp 11 rfl).1
  have e189 : ρ 15 = .bool false := (hp 8 rfl).1
  refine WL.pass ((wanted_of rfl rfl e189).trans rfl) rfl ?_
  exact WL.nil ⟨rfl, _, rfl, rfl, hs.cutG 0 0⟩ }
  {
  intro ρ w Γx Λx hs hu hp
  have e190 : ρ 19 = undef := (hp 12 rfl).1
  have e191 : ρ 15 = .bool false := (hp 8 rfl).1
  refine WL.pass ((wanted_of rfl rfl e191).trans rfl) rfl ?_
  exact WL.nil ⟨rfl, _, rfl, rfl, hs.cutG 0 0⟩ }
  {
  intro ρ w Γx Λx hs hu hp
  have e192 : ρ 15 = .bool false := (hp 8 rfl).1
  refine WL.pass ((wanted_of rfl rfl e192).trans rfl) rfl ?_
  exact WL.nil ⟨rfl, _, rfl, rfl, hs.cutG 0 0⟩ }
  {
  intro ρ w Γx Λx hs hu hp
  have e193 : ρ 21 = undef := (hp 14 rfl).1
  have e194 : ρ 15 = .bool false := (hp 8 rfl).1
  refine WL.pass ((wanted_of rfl rfl e194).trans rfl) rfl ?_
  exact WL.nil ⟨rfl, _, rfl, rfl, hs.cutG 0 0⟩ }
  {
  intro ρ w Γx Λx hs hu hp
  have e195 : ρ 15 = .bool false := (hp 8 rfl).1
  refine WL.pass ((wanted_of rfl rfl e195).trans rfl) rfl ?_
  exact WL.nil ⟨rfl, _, rfl, rfl, hs.cutG 0 0⟩ }
  {
  intro ρ w Γx Λx hs hu hp
  have e196 : ρ 22 = undef := (hp 15 rfl).1
  have e197 : ρ 23 = undef := (hp 16 rfl).1
  have e198 : ρ 15 = .bool false := (hp 8 rfl).1
  refine WL.pass ((wanted_of rfl rfl e198).trans rfl) rfl ?_
  exact WL.nil ⟨rfl, _, rfl, rfl, hs.cutG 0 0⟩ }
  {
  intro ρ w Γx Λx hs hu hp
  have e199 : ρ 24 = undef := (hp 17 rfl).1
  have e200 : ρ 15 = .bool false := (hp 8 rfl).1
  refine WL.pass ((wanted_of rfl rfl e200).trans rfl) rfl ?_
  exact WL.nil ⟨rfl, _, rfl, rfl, hs.cutG 0 0⟩ }
  {
  intro ρ w Γx Λx hs hu hp
  have e201 : ρ 20 = undef := (hp 13 rfl).1
  have e202 : ρ 25 = undef := (hp 18 rfl).1
  have e203 : ρ 15 = .bool false := (hp 8 rfl).1
  refine WL.pass ((wanted_of rfl rfl e203).trans rfl) rfl ?_
  exact WL.nil ⟨rfl, _, rfl, rfl, hs.cutG 0 0⟩ }
  {
  intro ρ w Γx Λx hs hu hp
  have e204 : ρ 15 = .bool false := (hp 8 rfl).1
  have e205 : ρ 26 = undef := (hp 19 rfl).1
  refine WL.pickF (v := .bool false) e204 rfl ?_
  exact WL.nil ⟨rfl, _, rfl, rfl, hs.cutG 0 0⟩ }
  {
  intro ρ w hs hu206 hp
  obtain ⟨⟨⟨⟨⟨⟨⟨⟨⟨⟨⟨⟨⟨⟨⟨⟨⟨⟨⟨⟨⟨_, hp0_⟩, hp1_⟩, hp2_⟩, hp3_⟩, hp4_⟩, hp5_⟩, hp6_⟩, hp7_⟩, hp8_⟩, hp9_⟩, hp10_⟩, hp11_⟩, hp12_⟩, hp13_⟩, hp14_⟩, hp15_⟩, hp16_⟩, hp17_⟩, hp18_⟩, hp19_⟩, hp20_⟩ := hp
  have hs : St ok (bz w0) w [vl t_history_History x1 (.agg cs3.toArray)] [blk g8 24 cs3] := hs
  have e207 : ρ 27 = .bool false := hp20_
  have e208 : ρ 26 = undef := hp19_
  have e209 : ρ 25 = undef := hp18_
  have e210 : ρ 24 = undef := hp17_
  have e211 : ρ 23 = undef := hp16_
  have e212 : ρ 22 = undef := hp15_
  have e213 : ρ 21 = undef := hp14_
  have e214 : ρ 20 = undef := hp13_
  have e215 : ρ 19 = undef := hp12_
  have e216 : ρ 18 = undef := hp11_
  have e217 : ρ 17 = undef := hp10_
  have e218 : ρ 16 = undef := hp9_
  have e219 : ρ 15 = .bool false := hp8_
  have e220 : ρ 14 = .bool false := hp7_
  have e221 : ρ 13 = undef := hp6_
  have e222 : ρ 12 = undef := hp5_
  have e223 : ρ 11 = undef := hp4_
  have e224 : ρ 10 = .bool x13 := hp3_
  have e225 : ρ 9 = .bool x13 := hp2_
  have e226 : ρ 8 = .int .i64 x5 := hp1_
  have e227 : ρ 7 = .agg cs3.toArray := hp0_
  refine WA.step [21] (by kernel_rfl) (by simp) ⟨?_, trivial⟩
  refine WL.assign (v := .bool false) e207 ?_
  refine WL.nil ⟨rfl, _, rfl, ?_⟩
  refine WA.done (by kernel_rfl) ?_
  exact Jk12 false _ _ rfl ((hs.mask []).pick []) hf } }
theorem history_Concurrent.calls {ok : Nat → Prop} {w0 : World} {x1 : history_History} {x5 : Int} {x6 : Int} {v2 : Value} {r : Bool} (hf : history_Concurrent x1 x5 x6 = some r) (i0 : (vl t_history_History x1 v2).holds ok w0) :
    Calls Try.prog 17 #[v2, .int .i64 x5, .int .i64 x6] w0 fun e w' => ∃ v, e = .returned v ∧ ∃ y : Unit, v = .bool r ∧ St ok (bz w0) w' [] [] := by
  unfold history_Concurrent at hf
  refine calls_of_W (fn := Try.f17) (N := 34) Try.func17 rfl Try.ntmps17 rfl ?_
  have hs : St ok (bz w0) w0 [vl t_history_History x1 v2] [] := St.init (All.cons i0 All.nil)
  clear i0
  obtain ⟨cs3, hl4, rfl⟩ := hs.aggv (n := 1) 0 rfl rfl rfl
  refine W.seqK fun K7 hK7 => ?_
  refine W.region ?_
  refine WL.box (vs := cs3) hs rfl rfl (fun g8 w hs => ?_)
  refine WL.assign (v := .bool false) rfl ?_
  refine WL.nil ?_
  refine hK7 _ _ ?_
  refine W.seqK fun K9 hK9 => ?_
  have Jk12 : ∀ (x11 : Bool) (ρ : Env) (w : World), ρ 6 = .bool x11 → St ok (bz w0) w [] [] → history_Concurrent.j1 x11 = some r → K9 ρ w := by
    intro x11 ρ w h10_6 hs hf
    refine hK9 _ _ ?_
    unfold history_Concurrent.j1 at hf
    refine W.ret ?_
    have hr := Option.some.inj hf; subst hr
    exact ⟨_, resOk_one rfl h10_6, (), rfl, (hs.mask []).pick []⟩
  refine W.region ?_
  refine WL.loadAll hs 0 rfl TI24 rfl hl4 ?_
  refine WL.move (v := .int .i64 x5) rfl ?_
  obtain ⟨x13, hxx13, hf⟩ := bindE hf
  refine WL.call (vs := [.agg cs3.toArray, .int .i64 x5]) hs FN41 ⟨rfl, ⟨rfl, trivial⟩⟩ (fun ok hA => history_inRange.calls (x1 := x1) (x5 := x5) hxx13 (hA.get 0 rfl)) ?_
  rintro _ w hs
  refine WL.move (v := .bool x13) rfl ?_
  rcases iteE hf with ⟨hc14, hf⟩ | ⟨hc14, hf⟩
  {
  refine WL.loadAll hs 0 rfl TI24 rfl hl4 ?_ (hg := (wanted_of rfl rfl (bool_tr rfl hc14)).trans rfl)
  refine WL.move (v := .int .i64 x6) rfl ?_ (hg := (wanted_of rfl rfl (bool_tr rfl hc14)).trans rfl)
  obtain ⟨x15, hxx15, hf⟩ := bindE hf
  refine WL.call (vs := [.agg cs3.toArray, .int .i64 x6]) hs FN41 ⟨rfl, ⟨rfl, trivial⟩⟩ (fun ok hA => history_inRange.calls (x1 := x1) (x5 := x6) hxx15 (hA.get 0 rfl)) ?_ (hg := (wanted_of rfl rfl (bool_tr rfl hc14)).trans rfl)
  rintro _ w hs
  refine WL.pickT (v := .bool x15) (bool_tr rfl hc14) rfl ?_
  refine WL.move (v := .bool x15) rfl ?_
  rcases iteE hf with ⟨hc16, hf⟩ | ⟨hc16, hf⟩
  {
  refine WL.move (v := .int .i64 x5) rfl ?_ (hg := (wanted_of rfl rfl (bool_tr rfl hc16)).trans rfl)
  refine WL.move (v := .int .i64 x6) rfl ?_ (hg := (wanted_of rfl rfl (bool_tr rfl hc16)).trans rfl)
  refine WL.bin (v := .bool (x5 != x6)) rfl rfl (ib_neq _ _ _) ?_ (hg := (wanted_of rfl rfl (bool_tr rfl hc16)).trans rfl)
  refine WL.pickT (v := .bool (x5 != x6)) (bool_tr rfl hc16) rfl ?_
  refine WL.move (v := .bool (x5 != x6)) rfl ?_
  rcases iteE hf with ⟨hc17, hf⟩ | ⟨hc17, hf⟩
  {
  refine WL.loadAll hs 0 rfl TI24 rfl hl4 ?_ (hg := (wanted_of rfl rfl (bool_tr rfl hc17)).trans rfl)
  refine WL.move (v := .int .i64 x5) rfl ?_ (hg := (wanted_of rfl rfl (bool_tr rfl hc17)).trans rfl)
  refine WL.move (v := .int .i64 x6) rfl ?_ (hg := (wanted_of rfl rfl (bool_tr rfl hc17)).trans rfl)
  obtain ⟨x18, hxx18, hf⟩ := bindE hf
  refine WL.call (vs := [.agg cs3.toArray, .int .i64 x5, .int .i64 x6]) hs FN15 ⟨rfl, ⟨rfl, ⟨rfl, trivial⟩⟩⟩ (fun ok hA => history_Precedes.calls (x1 := x1) (x5 := x5) (x6 := x6) hxx18 (hA.get 0 rfl)) ?_ (hg := (wanted_of rfl rfl (bool_tr rfl hc17)).trans rfl)
  rintro _ w hs
  refine WL.not rfl ?_ (hg := (wanted_of rfl rfl (bool_tr rfl hc17)).trans rfl)
  refine WL.pickT (v := .bool (!x18)) (bool_tr rfl hc17) rfl ?_
  refine WL.move (v := .bool (!x18)) rfl ?_
  rcases iteE hf with ⟨hc19, hf⟩ | ⟨hc19, hf⟩
  {
  refine WL.loadAll hs 0 rfl TI24 rfl hl4 ?_ (hg := (wanted_of rfl rfl (bool_tr rfl hc19)).trans rfl)
  refine WL.move (v := .int .i64 x6) rfl ?_ (hg := (wanted_of rfl rfl (bool_tr rfl hc19)).trans rfl)
  refine WL.move (v := .int .i64 x5) rfl ?_ (hg := (wanted_of rfl rfl (bool_tr rfl hc19)).trans rfl)
  obtain ⟨x20, hxx20, hf⟩ := bindE hf
  refine WL.call (vs := [.agg cs3.toArray, .int .i64 x6, .int .i64 x5]) hs FN15 ⟨rfl, ⟨rfl, ⟨rfl, trivial⟩⟩⟩ (fun ok hA => history_Precedes.calls (x1 := x1) (x5 := x6) (x6 := x5) hxx20 (hA.get 0 rfl)) ?_ (hg := (wanted_of rfl rfl (bool_tr rfl hc19)).trans rfl)
  rintro _ w hs
  refine WL.not rfl ?_ (hg := (wanted_of rfl rfl (bool_tr rfl hc19)).trans rfl)
  refine WL.pickT (v := .bool (!x20)) (bool_tr rfl hc19) rfl ?_
  refine WL.assign (v := .bool (!x20)) rfl ?_
  refine WL.nil ?_
  exact Jk12 (!x20) _ _ rfl ((hs.mask []).pick []) hf }
  {
  refine WL.pass ((wanted_of rfl rfl (bool_tr rfl hc19)).trans rfl) rfl ?_
  refine WL.pass ((wanted_of rfl rfl (bool_tr rfl hc19)).trans rfl) rfl ?_
  refine WL.pass ((wanted_of rfl rfl (bool_tr rfl hc19)).trans rfl) rfl ?_
  refine WL.pass ((wanted_of rfl rfl (bool_tr rfl hc19)).trans rfl) rfl ?_
  refine WL.pass ((wanted_of rfl rfl (bool_tr rfl hc19)).trans rfl) rfl ?_
  refine WL.pickF (v := .bool false) (bool_tr rfl hc19) rfl ?_
  refine WL.assign (v := .bool false) rfl ?_
  refine WL.nil ?_
  exact Jk12 false _ _ rfl ((hs.mask []).pick []) hf } }
  {
  refine WL.pass ((wanted_of rfl rfl (bool_tr rfl hc17)).trans rfl) rfl ?_
  refine WL.pass ((wanted_of rfl rfl (bool_tr rfl hc17)).trans rfl) rfl ?_
  refine WL.pass ((wanted_of rfl rfl (bool_tr rfl hc17)).trans rfl) rfl ?_
  refine WL.pass ((wanted_of rfl rfl (bool_tr rfl hc17)).trans rfl) rfl ?_
  refine WL.pass ((wanted_of rfl rfl (bool_tr rfl hc17)).trans rfl) rfl ?_
  refine WL.pickF (v := .bool false) (bool_tr rfl hc17) rfl ?_
  refine WL.move (v := .bool false) rfl ?_
  refine WL.pass ((wanted_of rfl rfl rfl).trans rfl) rfl ?_
  refine WL.pass ((wanted_of rfl rfl rfl).trans rfl) rfl ?_
  refine WL.pass ((wanted_of rfl rfl rfl).trans rfl) rfl ?_
  refine WL.pass ((wanted_of rfl rfl rfl).trans rfl) rfl ?_
  refine WL.pass ((wanted_of rfl rfl rfl).trans rfl) rfl ?_
  refine WL.pickF (v := .bool false) rfl rfl ?_
  refine WL.assign (v := .bool false) rfl ?_
  refine WL.nil ?_
  exact Jk12 false _ _ rfl ((hs.mask []).pick []) hf } }
  {
  refine WL.pass ((wanted_of rfl rfl (bool_tr rfl hc16)).trans rfl) rfl ?_
  refine WL.pass ((wanted_of rfl rfl (bool_tr rfl hc16)).trans rfl) rfl ?_
  refine WL.pass ((wanted_of rfl rfl (bool_tr rfl hc16)).trans rfl) rfl ?_
  refine WL.pickF (v := .bool false) (bool_tr rfl hc16) rfl ?_
  refine WL.move (v := .bool false) rfl ?_
  refine WL.pass ((wanted_of rfl rfl rfl).trans rfl) rfl ?_
  refine WL.pass ((wanted_of rfl rfl rfl).trans rfl) rfl ?_
  refine WL.pass ((wanted_of rfl rfl rfl).trans rfl) rfl ?_
  refine WL.pass ((wanted_of rfl rfl rfl).trans rfl) rfl ?_
  refine WL.pass ((wanted_of rfl rfl rfl).trans rfl) rfl ?_
  refine WL.pickF (v := .bool false) rfl rfl ?_
  refine WL.move (v := .bool false) rfl ?_
  refine WL.pass ((wanted_of rfl rfl rfl).trans rfl) rfl ?_
  refine WL.pass ((wanted_of rfl rfl rfl).trans rfl) rfl ?_
  refine WL.pass ((wanted_of rfl rfl rfl).trans rfl) rfl ?_
  refine WL.pass ((wanted_of rfl rfl rfl).trans rfl) rfl ?_
  refine WL.pass ((wanted_of rfl rfl rfl).trans rfl) rfl ?_
  refine WL.pickF (v := .bool false) rfl rfl ?_
  refine WL.assign (v := .bool false) rfl ?_
  refine WL.nil ?_
  exact Jk12 false _ _ rfl ((hs.mask []).pick []) hf } }
  {
  refine WL.pass ((wanted_of rfl rfl (bool_tr rfl hc14)).trans rfl) rfl ?_
  refine WL.pass ((wanted_of rfl rfl (bool_tr rfl hc14)).trans rfl) rfl ?_
  refine WL.pass ((wanted_of rfl rfl (bool_tr rfl hc14)).trans rfl) rfl ?_
  refine WL.pickF (v := .bool false) (bool_tr rfl hc14) rfl ?_
  refine WL.move (v := .bool false) rfl ?_
  refine WL.pass ((wanted_of rfl rfl rfl).trans rfl) rfl ?_
  refine WL.pass ((wanted_of rfl rfl rfl).trans rfl) rfl ?_
  refine WL.pass ((wanted_of rfl rfl rfl).trans rfl) rfl ?_
  refine WL.pickF (v := .bool false) rfl rfl ?_
  refine WL.move (v := .bool false) rfl ?_
  refine WL.pass ((wanted_of rfl rfl rfl).trans rfl) rfl ?_
  refine WL.pass ((wanted_of rfl rfl rfl).trans rfl) rfl ?_
  refine WL.pass ((wanted_of rfl rfl rfl).trans rfl) rfl ?_
  refine WL.pass ((wanted_of rfl rfl rfl).trans rfl) rfl ?_
  refine WL.pass ((wanted_of rfl rfl rfl).trans rfl) rfl ?_
  refine WL.pickF (v := .bool false) rfl rfl ?_
  refine WL.move (v := .bool false) rfl ?_
  refine WL.pass ((wanted_of rfl rfl rfl).trans rfl) rfl ?_
  refine WL.pass ((wanted_of rfl rfl rfl).trans rfl) rfl ?_
  refine WL.pass ((wanted_of rfl rfl rfl).trans rfl) rfl ?_
  refine WL.pass ((wanted_of rfl rfl rfl).trans rfl) rfl ?_
  refine WL.pass ((wanted_of rfl rfl rfl).trans rfl) rfl ?_
  refine WL.pickF (v := .bool false) rfl rfl ?_
  refine WL.assign (v := .bool false) rfl ?_
  refine WL.nil ?_
  exact Jk12 false _ _ rfl ((hs.mask []).pick []) hf }
theorem history_Width.calls {ok : Nat → Prop} {w0 : World} {x1 : history_History} {v2 : Value} {r : Int} (hf : history_Width x1 = some r) (i0 : (vl t_history_History x1 v2).holds ok w0) :
    Calls Try.prog 22 #[v2] w0 fun e w' => ∃ v, e = .returned v ∧ ∃ y : Unit, v = .int .i64 r ∧ St ok (bz w0) w' [] [] := by
  unfold history_Width at hf
  refine calls_of_W (fn := Try.f22) (N := 60) Try.func22 rfl Try.ntmps22 rfl ?_
  have hs : St ok (bz w0) w0 [vl t_history_History x1 v2] [] := St.init (All.cons i0 All.nil)
  clear i0
  obtain ⟨cs3, hl4, rfl⟩ := hs.aggv (n := 1) 0 rfl rfl rfl
  refine W.seqK fun K5 hK5 => ?_
  refine W.region ?_
  refine WL.box (vs := cs3) hs rfl rfl (fun g6 w hs => ?_)
  refine WL.assign (v := .int .i64 0) rfl ?_
  refine WL.nil ?_
  refine hK5 _ _ ?_
  refine W.seqK fun K7 hK7 => ?_
  refine W.region ?_
  refine WL.makeMap (fun a : Int => .int .i64 a) t_history_Operation hs (fun g8 w hs => ?_)
  refine WL.assign (v := .map (some g8)) rfl ?_
  refine WL.nil ?_
  refine hK7 _ _ ?_
  refine W.seqK fun K9 hK9 => ?_
  refine W.region ?_
  refine WL.assign (v := .int .i64 0) rfl ?_
  refine WL.assign (v := .int .i64 0) rfl ?_
  refine WL.nil ?_
  refine hK9 _ _ ?_
  refine W.seqK fun K10 hK10 => ?_
  refine W.region ?_
  refine WL.assign (v := .bool false) rfl ?_
  refine WL.nil ?_
  refine hK10 _ _ ?_
  refine W.seqK fun K11 hK11 => ?_
  have Jk15 : ∀ (x12 : List (Int × history_Operation)) (x14 : Int) (ρ : Env) (w : World), ρ 4 = .int .i64 x14 → St ok (bz w0) w [] [] → history_Width.j1 x12 x14 = some r → K11 ρ w := by
    intro x12 x14 ρ w h13_4 hs hf
    refine hK11 _ _ ?_
    unfold history_Width.j1 at hf
    refine W.seqK fun K16 hK16 => ?_
    refine W.region ?_
    refine WL.move (v := .int .i64 x14) h13_4 ?_
    refine WL.assign (v := .int .i64 x14) rfl ?_
    refine WL.nil ?_
    refine hK16 _ _ ?_
    refine W.ret ?_
    have hr := Option.some.inj hf; subst hr
    exact ⟨_, resOk_one rfl rfl, (), rfl, (hs.mask []).pick []⟩
  refine W.seqK fun K17 hK17 => ?_
  refine W.region ?_
  refine WL.fieldAddr (m := 0) rfl FA24_0 rfl ?_
  refine WL.loadF (z := x1.Operations) F_history_History_Operations hs 1 rfl 0 rfl rfl TI22 (.inr rfl) rfl rfl (fun v18 hs => ?_)
  obtain ⟨a19, c20, rfl⟩ := hs.slice 0 rfl
  refine WL.len (v := .slice a19 (x1.Operations).length c20) rfl (len_slice UN22) ?_
  refine WL.move (v := .int .i64 0) rfl ?_
  refine WL.nil ?_
  refine hK17 _ _ ?_
  refine W.block ?_
  obtain ⟨bs27, hbs27, hfs27⟩ := bindE hf
  refine W.loop hbs27 (fun s ρ w => match s with | (x21, x23, x24, x25, x26) => ρ 3 = .map (some g8) ∧ ρ 4 = .int .i64 x23 ∧ ρ 5 = .int .i64 x24 ∧ ρ 6 = .bool x25 ∧ ρ 13 = .slice a19 (x1.Operations).length c20 ∧ ρ 14 = .int .i64 ((x1.Operations).length : Int) ∧ ρ 15 = .int .i64 x26 ∧ St ok (bz w0) w [vl (tSlice t_history_Operation) x1.Operations (.slice a19 (x1.Operations).length c20)] [mapo (fun a : Int => .int .i64 a) t_history_Operation g8 x21]) ⟨rfl, rfl, rfl, rfl, rfl, rfl, rfl, (hs.mask [true]).pick [0]⟩ ?_
  intro s ρ w os27 hI hf hbbs27
  obtain ⟨x21, x23, x24, x25, x26⟩ := s
  obtain ⟨h22_3, h22_4, h22_5, h22_6, h22_13, h22_14, h22_15, hs⟩ := hI
  unfold history_Width.l2 at hf
  refine W.seqK fun K28 hK28 => ?_
  refine W.region ?_
  refine WL.bin (v := .bool (decide (x26 < ((x1.Operations).length : Int)))) h22_15 h22_14 (ib_lss _ _ _) ?_
  refine WL.nil ?_
  refine hK28 _ _ ?_
  refine W.seqK fun K29 hK29 => ?_
  rcases iteE hf with ⟨hc30, hf⟩ | ⟨hc30, hf⟩
  {
  refine W.cond_true (bool_tr rfl hc30) ?_
  refine W.skip ?_
  refine hK29 _ _ ?_
  refine W.seqK fun K31 hK31 => ?_
  have Jk37 : ∀ (x32 : List (Int × history_Operation)) (x34 : Int) (x35 : Int) (x36 : Bool) (ρ : Env) (w : World), ρ 3 = .map (some g8) → ρ 4 = .int .i64 x34 → ρ 5 = .int .i64 x35 → ρ 6 = .bool x36 → ρ 13 = .slice a19 (x1.Operations).length c20 → ρ 14 = .int .i64 ((x1.Operations).length : Int) → ρ 15 = .int .i64 x26 → St ok (bz w0) w [vl (tSlice t_history_Operation) x1.Operations (.slice a19 (x1.Operations).length c20)] [mapo (fun a : Int => .int .i64 a) t_history_Operation g8 x32] → history_Width.j2 x26 x32 x34 x35 x36 = some os27 → K31 ρ w := by
    intro x32 x34 x35 x36 ρ w h33_3 h33_4 h33_5 h33_6 h33_13 h33_14 h33_15 hs hf
    refine hK31 _ _ ?_
    unfold history_Width.j2 at hf
    refine W.region ?_
    obtain ⟨x38, ex38, hf⟩ := letE hf
    refine WL.bin (v := .int .i64 x38) h33_15 rfl (ib_as ex38 (ib_add _ _ _)) ?_
    refine WL.move (v := .int .i64 x38) rfl ?_
    refine WL.nil ?_
    exact ⟨_, (Option.some.inj hf).symm, h33_3, h33_4, h33_5, h33_6, h33_13, h33_14, rfl, (hs.mask [true]).pick [0]⟩
  refine W.block ?_
  refine W.seqK fun K39 hK39 => ?_
  refine W.region ?_
  refine WL.move (v := .int .i64 x26) h22_15 ?_
  obtain ⟨x40, hxx40, hf⟩ := bindE hf
  refine WL.indexAddr hs 0 rfl UN22 TI35 h22_13 h22_15 hxx40 (fun ad41 hs => ?_)
  refine WL.loadP hs 0 rfl TI35 (.inl rfl) rfl (fun v42 hs => ?_)
  obtain ⟨cs43, hl44, rfl⟩ := hs.aggv (n := 6) 0 rfl rfl rfl
  refine WL.alloc hs ZV35 (fun g45 w hs => ?_)
  refine WL.assign (v := .int .i64 x26) rfl ?_
  refine WL.storeAll (vs := cs43) hs 0 rfl TI35 rfl rfl rfl hl44 (hs.ones 0 rfl rfl) rfl (fun w hs => ?_)
  refine WL.nil ?_
  refine hK39 _ _ ?_
  refine W.seqK fun K46 hK46 => ?_
  have Jk49 : ∀ (x47 : List (Int × history_Operation)) (ρ : Env) (w : World), ρ 3 = .map (some g8) → ρ 4 = .int .i64 x23 → ρ 5 = .int .i64 x24 → ρ 6 = .bool x25 → ρ 7 = .int .i64 x26 → ρ 8 = .pointer (some ⟨g45, 0, none⟩) → ρ 13 = .slice a19 (x1.Operations).length c20 → ρ 14 = .int .i64 ((x1.Operations).length : Int) → ρ 15 = .int .i64 x26 → St ok (bz w0) w [vl (tSlice t_history_Operation) x1.Operations (.slice a19 (x1.Operations).length c20), vl t_history_Operation x40 (.agg cs43.toArray)] [blk g45 35 cs43, mapo (fun a : Int => .int .i64 a) t_history_Operation g8 x47] → history_Width.j5 x23 x24 x25 x26 x40 x47 = some os27 → K46 ρ w := by
    intro x47 ρ w h48_3 h48_4 h48_5 h48_6 h48_7 h48_8 h48_13 h48_14 h48_15 hs hf
    refine hK46 _ _ ?_
    unfold history_Width.j5 at hf
    refine W.seqK fun K50 hK50 => ?_
    have Jk53 : ∀ (x51 : List (Int × history_Operation)) (ρ : Env) (w : World), ρ 3 = .map (some g8) → ρ 4 = .int .i64 x23 → ρ 5 = .int .i64 x24 → ρ 6 = .bool x25 → ρ 7 = .int .i64 x26 → ρ 8 = .pointer (some ⟨g45, 0, none⟩) → ρ 13 = .slice a19 (x1.Operations).length c20 → ρ 14 = .int .i64 ((x1.Operations).length : Int) → ρ 15 = .int .i64 x26 → St ok (bz w0) w [vl (tSlice t_history_Operation) x1.Operations (.slice a19 (x1.Operations).length c20), vl t_history_Operation x40 (.agg cs43.toArray)] [blk g45 35 cs43, mapo (fun a : Int => .int .i64 a) t_history_Operation g8 x51] → history_Width.j4 x23 x24 x25 x26 x40 x51 = some os27 → K50 ρ w := by
      intro x51 ρ w h52_3 h52_4 h52_5 h52_6 h52_7 h52_8 h52_13 h52_14 h52_15 hs hf
      refine hK50 _ _ ?_
      unfold history_Width.j4 at hf
      refine W.seqK fun K54 hK54 => ?_
      refine W.region ?_
      refine WL.move (v := .map (some g8)) h52_3 ?_
      refine WL.move (v := .int .i64 x26) h52_7 ?_
      refine WL.loadAll hs 0 rfl TI35 h52_8 hl44 ?_
      obtain ⟨x55, exx55, hf⟩ := letE hf
      refine WL.mapUpdate (a := x26) (y := x40) (v := .agg cs43.toArray) hs 1 rfl (kkInt UN3) UN87 rfl rfl rfl (fun ok hA => hA.get 1 rfl) exx55 (fun w hs => ?_)
      refine WL.nil ?_
      refine hK54 _ _ ?_
      refine W.seqK fun K56 hK56 => ?_
      have Jk60 : ∀ (x58 : Int) (x59 : Bool) (ρ : Env) (w : World), ρ 3 = .map (some g8) → ρ 4 = .int .i64 x23 → ρ 5 = .int .i64 x58 → ρ 6 = .bool x59 → ρ 13 = .slice a19 (x1.Operations).length c20 → ρ 14 = .int .i64 ((x1.Operations).length : Int) → ρ 15 = .int .i64 x26 → St ok (bz w0) w [vl (tSlice t_history_Operation) x1.Operations (.slice a19 (x1.Operations).length c20)] [mapo (fun a : Int => .int .i64 a) t_history_Operation g8 x55] → history_Width.j3 x23 x26 x55 x58 x59 = some os27 → K56 ρ w := by
        intro x58 x59 ρ w h57_3 h57_4 h57_5 h57_6 h57_13 h57_14 h57_15 hs hf
        refine hK56 _ _ ?_
        unfold history_Width.j3 at hf
        refine W.region ?_
        refine WL.move (v := .int .i64 x23) h57_4 ?_
        refine WL.move (v := .map (some g8)) h57_3 ?_
        refine WL.len (v := .map (some g8)) rfl (len_map hs 0 rfl UN87) ?_
        refine WL.max rfl rfl ?_
        refine WL.assign (v := .int .i64 (maxI x23 (x55.length : Int))) rfl ?_
        refine WL.nil ?_
        exact Jk37 x55 (maxI x23 (x55.length : Int)) x58 x59 _ _ h57_3 rfl h57_5 h57_6 h57_13 h57_14 h57_15 ((hs.mask [true]).pick [0]) hf
      rcases iteE hf with ⟨hc62, hf⟩ | ⟨hc62, hf⟩
      {
      refine W.anyU (by kernel_rfl) 12 0 [true, true, true, true, true, true, true, true, true, true, true, true] rfl rfl (poAt [pv (.int .i64 x24), pv (.pointer (some ⟨g45, 5, none⟩)), pv (.int .i64 x40.Return), pv (.int .i64 (maxI x24 x40.Return)), pv (.bool x25), pv (.bool x25), pv (undef), pv (undef), pv (undef), pv (.bool true), pv (.int .i64 (maxI x24 x40.Return)), pv (.bool true)]) (tkAt [[], [], [], [], [], [], [], [], [], [], [], []]) (tlAt [fun _ => [], fun _ => [], fun _ => [], fun _ => [], fun _ => [], fun _ => [], fun _ => [], fun _ => [], fun _ => [], fun _ => [], fun _ => [], fun _ => []]) (Λ := [blk g45 35 cs43, mapo (fun a : Int => .int .i64 a) t_history_Operation g8 x55]) hs (by kernel_rfl) (by kernel_rfl) (by kernel_rfl) (by kernel_rfl) ⟨⟨⟨⟨⟨⟨⟨⟨⟨⟨⟨⟨trivial, ?_⟩, ?_⟩, ?_⟩, ?_⟩, ?_⟩, ?_⟩, ?_⟩, ?_⟩, ?_⟩, ?_⟩, ?_⟩, ?_⟩ ?_
      {
      intro ρ w Γx Λx hs hu hu2 hp
      refine WL.move (v := .int .i64 x24) ((hu2 5 (by kernel_rfl)).trans h52_5) ?_
      exact WL.nil ⟨rfl, _, rfl, rfl, hs.cutG 0 0⟩ }
      {
      intro ρ w Γx Λx hs hu hu2 hp
      refine WL.fieldAddr (m := 5) ((hu 8 rfl).trans h52_8) FA35_5 rfl ?_
      exact WL.nil ⟨rfl, _, rfl, rfl, hs.cutG 0 0⟩ }
      {
      intro ρ w Γx Λx hs hu hu2 hp
      have e63 : ρ 45 = .pointer (some ⟨g45, 5, none⟩) := (hp 1 rfl).1
      refine WL.loadF (z := x40.Return) F_history_Operation_Return hs (Λx.length + 0) (getApp rfl) (Γx.length + 1) (getApp rfl) rfl TI3 (.inr rfl) e63 rfl (fun v61 hs => ?_)
      obtain rfl := hs.int 0 rfl
      exact WL.nil ⟨rfl, _, rfl, rfl, hs.cutG 0 1⟩ }
      {
      intro ρ w Γx Λx hs hu hu2 hp
      have e64 : ρ 44 = .int .i64 x24 := (hp 0 rfl).1
      have e65 : ρ 46 = .int .i64 x40.Return := (hp 2 rfl).1
      refine WL.max e64 e65 ?_
      exact WL.nil ⟨rfl, _, rfl, rfl, hs.cutG 0 0⟩ }
      {
      intro ρ w Γx Λx hs hu hu2 hp
      refine WL.move (v := .bool x25) ((hu2 6 (by kernel_rfl)).trans h52_6) ?_
      exact WL.nil ⟨rfl, _, rfl, rfl, hs.cutG 0 0⟩ }
      {
      intro ρ w Γx Λx hs hu hu2 hp
      have e66 : ρ 48 = .bool x25 := (hp 4 rfl).1
      refine WL.move (v := .bool x25) e66 ?_
      exact WL.nil ⟨rfl, _, rfl, rfl, hs.cutG 0 0⟩ }
      {
      intro ρ w Γx Λx hs hu hu2 hp
      have e67 : ρ 49 = .bool x25 := (hp 5 rfl).1
      refine WL.pass ((wanted_of rfl rfl (bool_tr e67 hc62)).trans rfl) rfl ?_
      exact WL.nil ⟨rfl, _, rfl, rfl, hs.cutG 0 0⟩ }
      {
      intro ρ w Γx Λx hs hu hu2 hp
      have e68 : ρ 50 = undef := (hp 6 rfl).1
      have e69 : ρ 49 = .bool x25 := (hp 5 rfl).1
      refine WL.pass ((wanted_of rfl rfl (bool_tr e69 hc62)).trans rfl) rfl ?_
      exact WL.nil ⟨rfl, _, rfl, rfl, hs.cutG 0 0⟩ }
      {
      intro ρ w Γx Λx hs hu hu2 hp
      have e70 : ρ 51 = undef := (hp 7 rfl).1
      have e71 : ρ 49 = .bool x25 := (hp 5 rfl).1
      refine WL.pass ((wanted_of rfl rfl (bool_tr e71 hc62)).trans rfl) rfl ?_
      exact WL.nil ⟨rfl, _, rfl, rfl, hs.cutG 0 0⟩ }
      {
      intro ρ w Γx Λx hs hu hu2 hp
      have e72 : ρ 49 = .bool x25 := (hp 5 rfl).1
      have e73 : ρ 52 = undef := (hp 8 rfl).1
      refine WL.pickT (v := .bool true) (bool_tr e72 hc62) rfl ?_
      exact WL.nil ⟨rfl, _, rfl, rfl, hs.cutG 0 0⟩ }
      {
      intro ρ w Γx Λx hs hu hu2 hp
      have e74 : ρ 47 = .int .i64 (maxI x24 x40.Return) := (hp 3 rfl).1
      refine WL.assign (v := .int .i64 (maxI x24 x40.Return)) e74 ?_
      exact WL.nil ⟨rfl, _, rfl, rfl, hs.cutG 0 0⟩ }
      {
      intro ρ w Γx Λx hs hu hu2 hp
      have e75 : ρ 53 = .bool true := (hp 9 rfl).1
      refine WL.assign (v := .bool true) e75 ?_
      exact WL.nil ⟨rfl, _, rfl, rfl, hs.cutG 0 0⟩ }
      {
      intro ρ w hs hu76 hp
      obtain ⟨⟨⟨⟨⟨⟨⟨⟨⟨⟨⟨⟨_, hp0_⟩, hp1_⟩, hp2_⟩, hp3_⟩, hp4_⟩, hp5_⟩, hp6_⟩, hp7_⟩, hp8_⟩, hp9_⟩, hp10_⟩, hp11_⟩ := hp
      have hs : St ok (bz w0) w [vl (tSlice t_history_Operation) x1.Operations (.slice a19 (x1.Operations).length c20), vl t_history_Operation x40 (.agg cs43.toArray)] [blk g45 35 cs43, mapo (fun a : Int => .int .i64 a) t_history_Operation g8 x55] := hs
      have e77 : ρ 6 = .bool true := hp11_
      have e78 : ρ 5 = .int .i64 (maxI x24 x40.Return) := hp10_
      have e79 : ρ 53 = .bool true := hp9_
      have e80 : ρ 52 = undef := hp8_
      have e81 : ρ 51 = undef := hp7_
      have e82 : ρ 50 = undef := hp6_
      have e83 : ρ 49 = .bool x25 := hp5_
      have e84 : ρ 48 = .bool x25 := hp4_
      have e85 : ρ 47 = .int .i64 (maxI x24 x40.Return) := hp3_
      have e86 : ρ 46 = .int .i64 x40.Return := hp2_
      have e87 : ρ 45 = .pointer (some ⟨g45, 5, none⟩) := hp1_
      have e88 : ρ 44 = .int .i64 x24 := hp0_
      refine WA.done (by kernel_rfl) ?_
      exact Jk60 (maxI x24 x40.Return) true _ _ ((hu76 3 rfl).trans h52_3) ((hu76 4 rfl).trans h52_4) e78 e77 ((hu76 13 rfl).trans h52_13) ((hu76 14 rfl).trans h52_14) ((hu76 15 rfl).trans h52_15) ((hs.mask [false, true]).pick [0]) hf } }
      {
      refine W.anyU (by kernel_rfl) 12 0 [true, true, true, true, true, true, true, true, true, true, true, true] rfl rfl (poAt [pv (.int .i64 x24), pv (.pointer (some ⟨g45, 5, none⟩)), pv (.int .i64 x40.Return), pv (.int .i64 (maxI x24 x40.Return)), pv (.bool x25), pv (.bool x25), pv (.pointer (some ⟨g45, 5, none⟩)), pv (.int .i64 x40.Return), pv (.bool (x40.Return == 0)), pv (.bool (x40.Return == 0)), pv (.int .i64 (maxI x24 x40.Return)), pv (.bool (x40.Return == 0))]) (tkAt [[], [], [], [], [], [], [], [], [], [], [], []]) (tlAt [fun _ => [], fun _ => [], fun _ => [], fun _ => [], fun _ => [], fun _ => [], fun _ => [], fun _ => [], fun _ => [], fun _ => [], fun _ => [], fun _ => []]) (Λ := [blk g45 35 cs43, mapo (fun a : Int => .int .i64 a) t_history_Operation g8 x55]) hs (by kernel_rfl) (by kernel_rfl) (by kernel_rfl) (by kernel_rfl) ⟨⟨⟨⟨⟨⟨⟨⟨⟨⟨⟨⟨trivial, ?_⟩, ?_⟩, ?_⟩, ?_⟩, ?_⟩, ?_⟩, ?_⟩, ?_⟩, ?_⟩, ?_⟩, ?_⟩, ?_⟩ ?_
      {
      intro ρ w Γx Λx hs hu hu2 hp
      refine WL.move (v := .int .i64 x24) ((hu2 5 (by kernel_rfl)).trans h52_5) ?_
      exact WL.nil ⟨rfl, _, rfl, rfl, hs.cutG 0 0⟩ }
      {
      intro ρ w Γx Λx hs hu hu2 hp
      refine WL.fieldAddr (m := 5) ((hu 8 rfl).trans h52_8) FA35_5 rfl ?_
      exact WL.nil ⟨rfl, _, rfl, rfl, hs.cutG 0 0⟩ }
      {
      intro ρ w Γx Λx hs hu hu2 hp
      have e90 : ρ 45 = .pointer (some ⟨g45, 5, none⟩) := (hp 1 rfl).1
      refine WL.loadF (z := x40.Return) F_history_Operation_Return hs (Λx.length + 0) (getApp rfl) (Γx.length + 1) (getApp rfl) rfl TI3 (.inr rfl) e90 rfl (fun v61 hs => ?_)
      obtain rfl := hs.int 0 rfl
      exact WL.nil ⟨rfl, _, rfl, rfl, hs.cutG 0 1⟩ }
      {
      intro ρ w Γx Λx hs hu hu2 hp
      have e91 : ρ 44 = .int .i64 x24 := (hp 0 rfl).1
      have e92 : ρ 46 = .int .i64 x40.Return := (hp 2 rfl).1
      refine WL.max e91 e92 ?_
      exact WL.nil ⟨rfl, _, rfl, rfl, hs.cutG 0 0⟩ }
      {
      intro ρ w Γx Λx hs hu hu2 hp
      refine WL.move (v := .bool x25) ((hu2 6 (by kernel_rfl)).trans h52_6) ?_
      exact WL.nil ⟨rfl, _, rfl, rfl, hs.cutG 0 0⟩ }
      {
      intro ρ w Γx Λx hs hu hu2 hp
      have e93 : ρ 48 = .bool x25 := (hp 4 rfl).1
      refine WL.move (v := .bool x25) e93 ?_
      exact WL.nil ⟨rfl, _, rfl, rfl, hs.cutG 0 0⟩ }
      {
      intro ρ w Γx Λx hs hu hu2 hp
      have e94 : ρ 49 = .bool x25 := (hp 5 rfl).1
      refine WL.fieldAddr (m := 5) ((hu 8 rfl).trans h52_8) FA35_5 rfl ?_ (hg := (wanted_of rfl rfl (bool_tr e94 hc62)).trans rfl)
      exact WL.nil ⟨rfl, _, rfl, rfl, hs.cutG 0 0⟩ }
      {
      intro ρ w Γx Λx hs hu hu2 hp
      have e95 : ρ 50 = .pointer (some ⟨g45, 5, none⟩) := (hp 6 rfl).1
      have e96 : ρ 49 = .bool x25 := (hp 5 rfl).1
      refine WL.loadF (z := x40.Return) F_history_Operation_Return hs (Λx.length + 0) (getApp rfl) (Γx.length + 1) (getApp rfl) rfl TI3 (.inr rfl) e95 rfl (fun v89 hs => ?_) (hg := (wanted_of rfl rfl (bool_tr e96 hc62)).trans rfl)
      obtain rfl := hs.int 0 rfl
      exact WL.nil ⟨rfl, _, rfl, rfl, hs.cutG 0 1⟩ }
      {
      intro ρ w Γx Λx hs hu hu2 hp
      have e97 : ρ 51 = .int .i64 x40.Return := (hp 7 rfl).1
      have e98 : ρ 49 = .bool x25 := (hp 5 rfl).1
      refine WL.bin (v := .bool (x40.Return == 0)) e97 rfl (ib_eql _ _ _) ?_ (hg := (wanted_of rfl rfl (bool_tr e98 hc62)).trans rfl)
      exact WL.nil ⟨rfl, _, rfl, rfl, hs.cutG 0 0⟩ }
      {
      intro ρ w Γx Λx hs hu hu2 hp
      have e99 : ρ 49 = .bool x25 := (hp 5 rfl).1
      have e100 : ρ 52 = .bool (x40.Return == 0) := (hp 8 rfl).1
      refine WL.pickF (v := .bool (x40.Return == 0)) (bool_tr e99 hc62) e100 ?_
      exact WL.nil ⟨rfl, _, rfl, rfl, hs.cutG 0 0⟩ }
      {
      intro ρ w Γx Λx hs hu hu2 hp
      have e101 : ρ 47 = .int .i64 (maxI x24 x40.Return) := (hp 3 rfl).1
      refine WL.assign (v := .int .i64 (maxI x24 x40.Return)) e101 ?_
      exact WL.nil ⟨rfl, _, rfl, rfl, hs.cutG 0 0⟩ }
      {
      intro ρ w Γx Λx hs hu hu2 hp
      have e102 : ρ 53 = .bool (x40.Return == 0) := (hp 9 rfl).1
      refine WL.assign (v := .bool (x40.Return == 0)) e102 ?_
      exact WL.nil ⟨rfl, _, rfl, rfl, hs.cutG 0 0⟩ }
      {
      intro ρ w hs hu103 hp
      obtain ⟨⟨⟨⟨⟨⟨⟨⟨⟨⟨⟨⟨_, hp0_⟩, hp1_⟩, hp2_⟩, hp3_⟩, hp4_⟩, hp5_⟩, hp6_⟩, hp7_⟩, hp8_⟩, hp9_⟩, hp10_⟩, hp11_⟩ := hp
      have hs : St ok (bz w0) w [vl (tSlice t_history_Operation) x1.Operations (.slice a19 (x1.Operations).length c20), vl t_history_Operation x40 (.agg cs43.toArray)] [blk g45 35 cs43, mapo (fun a : Int => .int .i64 a) t_history_Operation g8 x55] := hs
      have e104 : ρ 6 = .bool (x40.Return == 0) := hp11_
      have e105 : ρ 5 = .int .i64 (maxI x24 x40.Return) := hp10_
      have e106 : ρ 53 = .bool (x40.Return == 0) := hp9_
      have e107 : ρ 52 = .bool (x40.Return == 0) := hp8_
      have e108 : ρ 51 = .int .i64 x40.Return := hp7_
      have e109 : ρ 50 = .pointer (some ⟨g45, 5, none⟩) := hp6_
      have e110 : ρ 49 = .bool x25 := hp5_
      have e111 : ρ 48 = .bool x25 := hp4_
      have e112 : ρ 47 = .int .i64 (maxI x24 x40.Return) := hp3_
      have e113 : ρ 46 = .int .i64 x40.Return := hp2_
      have e114 : ρ 45 = .pointer (some ⟨g45, 5, none⟩) := hp1_
      have e115 : ρ 44 = .int .i64 x24 := hp0_
      refine WA.done (by kernel_rfl) ?_
      exact Jk60 (maxI x24 x40.Return) (x40.Return == 0) _ _ ((hu103 3 rfl).trans h52_3) ((hu103 4 rfl).trans h52_4) e105 e104 ((hu103 13 rfl).trans h52_13) ((hu103 14 rfl).trans h52_14) ((hu103 15 rfl).trans h52_15) ((hs.mask [false, true]).pick [0]) hf } }
    refine W.seqK fun K116 hK116 => ?_
    refine W.region ?_
    refine WL.move (v := .map (some g8)) h48_3 ?_
    have hf := permE hf
    refine WL.range hs 1 rfl UN87 rfl (fun r117 w hs => ?_)
    refine WL.nil ?_
    refine hK116 _ _ ?_
    refine W.block ?_
    refine W.loopR hf (fun lf s ρ w => match s with | x119 => ρ 3 = .map (some g8) ∧ ρ 4 = .int .i64 x23 ∧ ρ 5 = .int .i64 x24 ∧ ρ 6 = .bool x25 ∧ ρ 7 = .int .i64 x26 ∧ ρ 8 = .pointer (some ⟨g45, 0, none⟩) ∧ ρ 13 = .slice a19 (x1.Operations).length c20 ∧ ρ 14 = .int .i64 ((x1.Operations).length : Int) ∧ ρ 15 = .int .i64 x26 ∧ ρ 30 = .pointer (some ⟨r117, 0, none⟩) ∧ St ok (bz w0) w [vl (tSlice t_history_Operation) x1.Operations (.slice a19 (x1.Operations).length c20), vl t_history_Operation x40 (.agg cs43.toArray)] [blk g45 35 cs43, rng (fun a : Int => .int .i64 a) t_history_Operation g8 r117 x119 lf none]) ⟨h48_3, h48_4, h48_5, h48_6, h48_7, h48_8, h48_13, h48_14, h48_15, rfl, (hs.mask [true, true]).pick [0, 1]⟩ ?_
    intro lf x119 ρ w hI hNs121 hCs121
    obtain ⟨h120_3, h120_4, h120_5, h120_6, h120_7, h120_8, h120_13, h120_14, h120_15, h120_30, hs⟩ := hI
    refine W.seqK fun K124 hK124 => ?_
    refine W.region ?_
    refine WL.next hs 1 rfl h120_30 (fun hL => ?_) (fun x122 x123 lf2s121 v126 w hPs121 hs => ?_)
    {
    have hf : history_Width.j4 x23 x24 x25 x26 x40 x119 = some os27 := hNs121 hL
    have hs := hs.unrng 1 rfl
    refine WL.extract (v := .bool false) rfl rfl ?_
    refine WL.nil ?_
    refine hK124 _ _ ?_
    refine W.seqK fun K125 hK125 => ?_
    refine W.cond_false rfl ?_
    refine W.exit ?_
    exact Jk53 x119 _ _ h120_3 h120_4 h120_5 h120_6 h120_7 h120_8 h120_13 h120_14 h120_15 ((hs.mask [true, true]).pick [0, 1]) hf }
    {
    obtain ⟨os121, hSs121, hBs121⟩ := hCs121 _ _ hPs121
    have hf : history_Width.l1 x40 x122 x123 x119 = some os121 := hSs121
    unfold history_Width.l1 at hf
    refine WL.extract (v := .bool true) rfl rfl ?_
    refine WL.nil ?_
    refine hK124 _ _ ?_
    refine W.seqK fun K127 hK127 => ?_
    refine W.cond_true rfl ?_
    refine W.skip ?_
    refine hK127 _ _ ?_
    refine W.block ?_
    refine W.seqK fun K128 hK128 => ?_
    refine W.region ?_
    refine WL.entry hs 1 rfl h120_30 (fun v129 hs => ?_)
    obtain ⟨cs130, hl131, rfl⟩ := hs.aggv (n := 6) 0 rfl rfl rfl
    refine WL.extract (v := .int .i64 x122) rfl rfl ?_
    refine WL.extract (v := .agg cs130.toArray) rfl rfl ?_
    refine WL.alloc hs ZV35 (fun g132 w hs => ?_)
    refine WL.assign (v := .int .i64 x122) rfl ?_
    refine WL.storeAll (vs := cs130) hs 0 rfl TI35 rfl rfl rfl hl131 (hs.ones 0 rfl rfl) rfl (fun w hs => ?_)
    refine WL.nil ?_
    refine hK128 _ _ ?_
    refine W.seqK fun K133 hK133 => ?_
    refine W.region ?_
    refine WL.loadAll hs 0 rfl TI35 rfl hl131 ?_
    refine WL.loadAll hs 1 rfl TI35 h120_8 hl44 ?_
    obtain ⟨x134, hxx134, hf⟩ := bindE hf
    refine WL.call (vs := [.agg cs130.toArray, .agg cs43.toArray]) hs FN42 ⟨rfl, ⟨rfl, trivial⟩⟩ (fun ok hA => history_precedes.calls (x1 := x123) (x5 := x40) hxx134 (hA.get 0 rfl) (hA.get 2 rfl)) ?_
    rintro _ w hs
    refine WL.nil ?_
    refine hK133 _ _ ?_
    rcases iteE hf with ⟨hc135, hf⟩ | ⟨hc135, hf⟩
    {
    refine W.cond_true (bool_tr rfl hc135) ?_
    refine W.region ?_
    refine WL.move (v := .map (some g8)) h120_3 ?_
    refine WL.move (v := .int .i64 x122) rfl ?_
    obtain ⟨x136, exx136, hf⟩ := letE hf
    refine WL.deleteR (a := x122) hs 2 rfl (kkInt UN3) UN87 rfl rfl exx136 (fun w hs => ?_)
    refine WL.nil ?_
    have hr := Option.some.inj hf; subst hr
    exact ⟨_, _, _, hPs121, hSs121, h120_3, h120_4, h120_5, h120_6, h120_7, h120_8, h120_13, h120_14, h120_15, h120_30, (hs.mask [false, true, true]).pick [1, 2]⟩ }
    {
    refine W.cond_false (bool_tr rfl hc135) ?_
    refine W.skip ?_
    have hr := Option.some.inj hf; subst hr
    have hs := hs.rngF 2 rfl
    exact ⟨_, _, _, hPs121, hSs121, h120_3, h120_4, h120_5, h120_6, h120_7, h120_8, h120_13, h120_14, h120_15, h120_30, (hs.mask [false, true, true]).pick [1, 2]⟩ } }
  refine W.seqK fun K137 hK137 => ?_
  have Jk140 : ∀ (x139 : Bool) (ρ : Env) (w : World), ρ 3 = .map (some g8) → ρ 4 = .int .i64 x23 → ρ 5 = .int .i64 x24 → ρ 6 = .bool x25 → ρ 7 = .int .i64 x26 → ρ 8 = .pointer (some ⟨g45, 0, none⟩) → ρ 13 = .slice a19 (x1.Operations).length c20 → ρ 14 = .int .i64 ((x1.Operations).length : Int) → ρ 15 = .int .i64 x26 → ρ 27 = .bool x139 → St ok (bz w0) w [vl (tSlice t_history_Operation) x1.Operations (.slice a19 (x1.Operations).length c20), vl t_history_Operation x40 (.agg cs43.toArray)] [blk g45 35 cs43, mapo (fun a : Int => .int .i64 a) t_history_Operation g8 x21] → history_Width.j6 x21 x23 x24 x25 x26 x40 x139 = some os27 → K137 ρ w := by
    intro x139 ρ w h138_3 h138_4 h138_5 h138_6 h138_7 h138_8 h138_13 h138_14 h138_15 h138_27 hs hf
    refine hK137 _ _ ?_
    unfold history_Width.j6 at hf
    rcases iteE hf with ⟨hc141, hf⟩ | ⟨hc141, hf⟩
    {
    refine W.cond_true (bool_tr h138_27 hc141) ?_
    refine W.region ?_
    refine WL.move (v := .map (some g8)) h138_3 ?_
    refine WL.clearM hs 1 rfl UN87 rfl (fun w hs => ?_)
    refine WL.nil ?_
    exact Jk49 ([] : List (Int × history_Operation)) _ _ h138_3 h138_4 h138_5 h138_6 h138_7 h138_8 h138_13 h138_14 h138_15 ((hs.mask [true, true]).pick [0, 1]) hf }
    {
    refine W.cond_false (bool_tr h138_27 hc141) ?_
    refine W.skip ?_
    exact Jk49 x21 _ _ h138_3 h138_4 h138_5 h138_6 h138_7 h138_8 h138_13 h138_14 h138_15 ((hs.mask [true, true]).pick [0, 1]) hf }
  refine W.region ?_
  refine WL.move (v := .bool x25) h22_6 ?_
  refine WL.not rfl ?_
  refine WL.move (v := .bool (!x25)) rfl ?_
  rcases iteE hf with ⟨hc142, hf⟩ | ⟨hc142, hf⟩
  {
  refine WL.move (v := .int .i64 x24) h22_5 ?_ (hg := (wanted_of rfl rfl (bool_tr rfl hc142)).trans rfl)
  refine WL.fieldAddr (m := 4) rfl FA35_4 rfl ?_ (hg := (wanted_of rfl rfl (bool_tr rfl hc142)).trans rfl)
  refine WL.loadF (z := x40.Call) F_history_Operation_Call hs 0 rfl 0 rfl rfl TI3 (.inr rfl) rfl rfl (fun v143 hs => ?_) (hg := (wanted_of rfl rfl (bool_tr rfl hc142)).trans rfl)
  obtain rfl := hs.int 0 rfl
  refine WL.bin (v := .bool (decide (x24 < x40.Call))) rfl rfl (ib_lss _ _ _) ?_ (hg := (wanted_of rfl rfl (bool_tr rfl hc142)).trans rfl)
  refine WL.pickT (v := .bool (decide (x24 < x40.Call))) (bool_tr rfl hc142) rfl ?_
  refine WL.nil ?_
  exact Jk140 (decide (x24 < x40.Call)) _ _ h22_3 h22_4 h22_5 h22_6 rfl rfl h22_13 h22_14 h22_15 rfl ((hs.mask [true, true]).pick [3, 1]) hf }
  {
  refine WL.pass ((wanted_of rfl rfl (bool_tr rfl hc142)).trans rfl) rfl ?_
  refine WL.pass ((wanted_of rfl rfl (bool_tr rfl hc142)).trans rfl) rfl ?_
  refine WL.pass ((wanted_of rfl rfl (bool_tr rfl hc142)).trans rfl) rfl ?_
  refine WL.pass ((wanted_of rfl rfl (bool_tr rfl hc142)).trans rfl) rfl ?_
  refine WL.pickF (v := .bool false) (bool_tr rfl hc142) rfl ?_
  refine WL.nil ?_
  exact Jk140 false _ _ h22_3 h22_4 h22_5 h22_6 rfl rfl h22_13 h22_14 h22_15 rfl ((hs.mask [true, true]).pick [2, 0]) hf } }
  {
  refine W.cond_false (bool_tr rfl hc30) ?_
  refine W.exit ?_
  have hr := Option.some.inj hf; subst hr
  have hr := hbbs27 _ rfl; subst hr
  have hf := hfs27
  exact Jk15 x21 x23 _ _ h22_4 ((hs.mask []).pick []) hf }
theorem history_Of.calls {ok : Nat → Prop} {w0 : World} {x1 : history_History} {x5 : Int} {v2 : Value} {r : List Int} (hf : history_Of x1 x5 = some r) (i0 : (vl t_history_History x1 v2).holds ok w0) :
    Calls Try.prog 24 #[v2, .int .i64 x5] w0 fun e w' => ∃ v, e = .returned v ∧ ∃ y : (Option Addr × Nat × Nat), v = .slice y.1 y.2.1 y.2.2 ∧ St ok (bz w0) w' [] [own (tInt .i64) 3 (.slice y.1 y.2.1 y.2.2) r] := by
  unfold history_Of at hf
  refine calls_of_W (fn := Try.f24) (N := 26) Try.func24 rfl Try.ntmps24 rfl ?_
  have hs : St ok (bz w0) w0 [vl t_history_History x1 v2] [] := St.init (All.cons i0 All.nil)
  clear i0
  obtain ⟨cs3, hl4, rfl⟩ := hs.aggv (n := 1) 0 rfl rfl rfl
  refine W.seqK fun K6 hK6 => ?_
  refine W.region ?_
  refine WL.box (vs := cs3) hs rfl rfl (fun g7 w hs => ?_)
  refine WL.assign (v := .slice none 0 0) rfl ?_
  refine WL.nil ?_
  refine hK6 _ _ ?_
  refine W.seqK fun K8 hK8 => ?_
  refine W.region ?_
  refine WL.assign (v := .slice none 0 0) rfl ?_
  refine WL.nil ?_
  refine hK8 _ _ ?_
  refine W.seqK fun K9 hK9 => ?_
  have hs := hs.ownNil (tInt .i64) 3
  have Jk15 : ∀ (x11 : List Int) (a12 : Option Addr) (c13 : Nat) (n14 : Nat) (ρ : Env) (w : World), ρ 5 = .slice a12 n14 c13 → St ok (bz w0) w [] [own (tInt .i64) 3 (.slice a12 n14 c13) x11] → history_Of.j1 x11 = some r → K9 ρ w := by
    intro x11 a12 c13 n14 ρ w h10_5 hs hf
    refine hK9 _ _ ?_
    unfold history_Of.j1 at hf
    refine W.seqK fun K16 hK16 => ?_
    refine W.region ?_
    refine WL.move (v := .slice a12 n14 c13) h10_5 ?_
    refine WL.assign (v := .slice a12 n14 c13) rfl ?_
    refine WL.nil ?_
    refine hK16 _ _ ?_
    refine W.ret ?_
    have hr := Option.some.inj hf; subst hr
    exact ⟨_, resOk_one rfl rfl, (a12, n14, c13), rfl, (hs.mask [true]).pick []⟩
  refine W.seqK fun K17 hK17 => ?_
  refine W.region ?_
  refine WL.fieldAddr (m := 0) rfl FA24_0 rfl ?_
  refine WL.loadF (z := x1.Operations) F_history_History_Operations hs 1 rfl 0 rfl rfl TI22 (.inr rfl) rfl rfl (fun v18 hs => ?_)
  obtain ⟨a19, c20, rfl⟩ := hs.slice 0 rfl
  refine WL.len (v := .slice a19 (x1.Operations).length c20) rfl (len_slice UN22) ?_
  refine WL.move (v := .int .i64 0) rfl ?_
  refine WL.nil ?_
  refine hK17 _ _ ?_
  refine W.block ?_
  obtain ⟨bs27, hbs27, hfs27⟩ := bindE hf
  refine W.loop hbs27 (fun s ρ w => match s with | (x22, x26) => ∃ (a23 : Option Addr), ∃ (c24 : Nat), ∃ (n25 : Nat), ρ 1 = .int .i64 x5 ∧ ρ 5 = .slice a23 n25 c24 ∧ ρ 9 = .slice a19 (x1.Operations).length c20 ∧ ρ 10 = .int .i64 ((x1.Operations).length : Int) ∧ ρ 11 = .int .i64 x26 ∧ St ok (bz w0) w [vl (tSlice t_history_Operation) x1.Operations (.slice a19 (x1.Operations).length c20)] [own (tInt .i64) 3 (.slice a23 n25 c24) x22]) ⟨none, 0, 0, rfl, rfl, rfl, rfl, rfl, (hs.mask [true]).pick [0]⟩ ?_
  intro s ρ w os27 hI hf hbbs27
  obtain ⟨x22, x26⟩ := s
  obtain ⟨a23, c24, n25, h21_1, h21_5, h21_9, h21_10, h21_11, hs⟩ := hI
  unfold history_Of.l1 at hf
  refine W.seqK fun K28 hK28 => ?_
  refine W.region ?_
  refine WL.bin (v := .bool (decide (x26 < ((x1.Operations).length : Int)))) h21_11 h21_10 (ib_lss _ _ _) ?_
  refine WL.nil ?_
  refine hK28 _ _ ?_
  refine W.seqK fun K29 hK29 => ?_
  rcases iteE hf with ⟨hc30, hf⟩ | ⟨hc30, hf⟩
  {
  refine W.cond_true (bool_tr rfl hc30) ?_
  refine W.skip ?_
  refine hK29 _ _ ?_
  refine W.seqK fun K31 hK31 => ?_
  have Jk37 : ∀ (x33 : List Int) (a34 : Option Addr) (c35 : Nat) (n36 : Nat) (ρ : Env) (w : World), ρ 1 = .int .i64 x5 → ρ 5 = .slice a34 n36 c35 → ρ 9 = .slice a19 (x1.Operations).length c20 → ρ 10 = .int .i64 ((x1.Operations).length : Int) → ρ 11 = .int .i64 x26 → St ok (bz w0) w [vl (tSlice t_history_Operation) x1.Operations (.slice a19 (x1.Operations).length c20)] [own (tInt .i64) 3 (.slice a34 n36 c35) x33] → history_Of.j2 x26 x33 = some os27 → K31 ρ w := by
    intro x33 a34 c35 n36 ρ w h32_1 h32_5 h32_9 h32_10 h32_11 hs hf
    refine hK31 _ _ ?_
    unfold history_Of.j2 at hf
    refine W.region ?_
    obtain ⟨x38, ex38, hf⟩ := letE hf
    refine WL.bin (v := .int .i64 x38) h32_11 rfl (ib_as ex38 (ib_add _ _ _)) ?_
    refine WL.move (v := .int .i64 x38) rfl ?_
    refine WL.nil ?_
    exact ⟨_, (Option.some.inj hf).symm, a34, c35, n36, h32_1, h32_5, h32_9, h32_10, rfl, (hs.mask [true]).pick [0]⟩
  refine W.block ?_
  refine W.seqK fun K39 hK39 => ?_
  refine W.region ?_
  refine WL.move (v := .int .i64 x26) h21_11 ?_
  obtain ⟨x40, hxx40, hf⟩ := bindE hf
  refine WL.indexAddr hs 0 rfl UN22 TI35 h21_9 h21_11 hxx40 (fun ad41 hs => ?_)
  refine WL.loadP hs 0 rfl TI35 (.inl rfl) rfl (fun v42 hs => ?_)
  obtain ⟨cs43, hl44, rfl⟩ := hs.aggv (n := 6) 0 rfl rfl rfl
  refine WL.alloc hs ZV35 (fun g45 w hs => ?_)
  refine WL.assign (v := .int .i64 x26) rfl ?_
  refine WL.storeAll (vs := cs43) hs 0 rfl TI35 rfl rfl rfl hl44 (hs.ones 0 rfl rfl) rfl (fun w hs => ?_)
  refine WL.nil ?_
  refine hK39 _ _ ?_
  refine W.seqK fun K46 hK46 => ?_
  refine W.region ?_
  refine WL.fieldAddr (m := 0) rfl FA35_0 rfl ?_
  refine WL.loadF (z := x40.Process) F_history_Operation_Process hs 0 rfl 0 rfl rfl TI3 (.inr rfl) rfl rfl (fun v47 hs => ?_)
  obtain rfl := hs.int 0 rfl
  refine WL.move (v := .int .i64 x5) h21_1 ?_
  refine WL.bin (v := .bool (x40.Process == x5)) rfl rfl (ib_eql _ _ _) ?_
  refine WL.nil ?_
  refine hK46 _ _ ?_
  rcases iteE hf with ⟨hc48, hf⟩ | ⟨hc48, hf⟩
  {
  refine W.cond_true (bool_tr rfl hc48) ?_
  refine W.region ?_
  refine WL.move (v := .slice a23 n25 c24) h21_5 ?_
  refine WL.move (v := .int .i64 x26) rfl ?_
  refine WL.buildSlice (n := 1) (vs := [(0, .int .i64 x26)]) (cs := [.int .i64 x26]) hs ⟨⟨rfl, rfl⟩, trivial⟩ (bls PS29 (by decide) rfl) (fun g49 w hs => ?_)
  obtain ⟨x50, hxx50, hf⟩ := bindE hf
  obtain ⟨hbx50, hex50⟩ := appE hxx50
  refine WL.append (ys := [x26]) (zs := x50) hs 2 rfl 0 rfl UN29 EI3 rfl rfl (fun ok hA => (Cells.one (T := tInt .i64) rfl)) hbx50 (by omega) hex50 (fun v51 w hs => ?_)
  obtain ⟨a52, n54, c53, rfl⟩ := hs.ownv3 2 rfl
  refine WL.assign (v := .slice a52 n54 c53) rfl ?_
  refine WL.nil ?_
  exact Jk37 x50 a52 c53 n54 _ _ h21_1 rfl h21_9 h21_10 h21_11 ((hs.mask [false, false, true]).pick [3]) hf }
  {
  refine W.cond_false (bool_tr rfl hc48) ?_
  refine W.skip ?_
  exact Jk37 x22 a23 c24 n25 _ _ h21_1 h21_5 h21_9 h21_10 h21_11 ((hs.mask [false, true]).pick [3]) hf } }
  {
  refine W.cond_false (bool_tr rfl hc30) ?_
  refine W.exit ?_
  have hr := Option.some.inj hf; subst hr
  have hr := hbbs27 _ rfl; subst hr
  have hf := hfs27
  exact Jk15 x22 a23 c24 n25 _ _ h21_5 ((hs.mask [true]).pick []) hf }
theorem slices_Clone_Effect.calls {ok : Nat → Prop} {w0 : World} {x1 : List api_Effect} {a2 : Option Addr} {c3 : Nat} {r : List api_Effect} (hf : slices_Clone_Effect x1 = some r) (i0 : (vl (tSlice t_api_Effect) x1 (.slice a2 x1.length c3)).holds ok w0) :
    Calls Try.prog 43 #[.slice a2 x1.length c3] w0 fun e w' => ∃ v, e = .returned v ∧ ∃ y : (Option Addr × Nat × Nat), v = .slice y.1 y.2.1 y.2.2 ∧ St ok (bz w0) w' [] [own t_api_Effect 72 (.slice y.1 y.2.1 y.2.2) r] := by
  unfold slices_Clone_Effect at hf
  refine calls_of_W (fn := Try.f43) (N := 8) Try.func43 rfl Try.ntmps43 rfl ?_
  have hs : St ok (bz w0) w0 [vl (tSlice t_api_Effect) x1 (.slice a2 x1.length c3)] [] := St.init (All.cons i0 All.nil)
  clear i0
  refine W.seqK fun K4 hK4 => ?_
  refine W.region ?_
  refine WL.assign (v := .slice none 0 0) rfl ?_
  refine WL.nil ?_
  refine hK4 _ _ ?_
  refine W.seqK fun K5 hK5 => ?_
  refine W.seqK fun K6 hK6 => ?_
  refine W.region ?_
  refine WL.move (v := .slice a2 x1.length c3) rfl ?_
  refine WL.nilEq UN30 rfl ?_
  rcases a2 with _ | ad7
  {
  obtain rfl := hs.nilx 0 rfl
  have hf : some [] = some r := by simpa [app, idx, cut] using hf
  refine WL.nil ?_
  refine hK6 _ _ ?_
  refine W.cond_true rfl ?_
  refine W.seqK fun K8 hK8 => ?_
  refine W.region ?_
  refine WL.assign (v := .slice none 0 0) rfl ?_
  refine WL.nil ?_
  refine hK8 _ _ ?_
  refine W.ret ?_
  have hr := Option.some.inj hf; subst hr
  have hs := hs.ownNil t_api_Effect 72
  exact ⟨_, resOk_one rfl rfl, (none, 0, 0), rfl, (hs.mask [true]).pick []⟩ }
  {
  refine WL.nil ?_
  refine hK6 _ _ ?_
  refine W.cond_false rfl ?_
  refine W.skip ?_
  refine hK5 _ _ ?_
  refine W.seqK fun K9 hK9 => ?_
  refine W.region ?_
  refine WL.buildSlice0 hs UN30 TI72 (fun a10 w hs => ?_)
  refine WL.move (v := .slice (some ad7) x1.length c3) rfl ?_
  have hs := hs.ownEmpty t_api_Effect 72 a10
  obtain ⟨x11, hxx11, hf⟩ := bindE hf
  obtain ⟨hbx11, hex11⟩ := appE hxx11
  refine WL.appendS (zs := x11) hs 0 rfl 0 rfl UN30 UN30 EI72 rfl rfl hbx11 (by omega) hex11 (fun v12 w hs => ?_)
  obtain ⟨a13, n15, c14, rfl⟩ := hs.ownv3 0 rfl
  refine WL.assign (v := .slice a13 n15 c14) rfl ?_
  refine WL.nil ?_
  refine hK9 _ _ ?_
  refine W.ret ?_
  have hr := Option.some.inj hf; subst hr
  exact ⟨_, resOk_one rfl rfl, (a13, n15, c14), rfl, (hs.mask [true]).pick []⟩ }
theorem history_cloneValues.calls {ok : Nat → Prop} {w0 : World} {x1 : List history_Value} {a2 : Option Addr} {c3 : Nat} {r : List history_Value} (hf : history_cloneValues x1 = some r) (i0 : (vl (tSlice t_history_Value) x1 (.slice a2 x1.length c3)).holds ok w0) :
    Calls Try.prog 44 #[.slice a2 x1.length c3] w0 fun e w' => ∃ v, e = .returned v ∧ ∃ y : (Option Addr × Nat × Nat), v = .slice y.1 y.2.1 y.2.2 ∧ St ok (bz w0) w' [] [own t_history_Value 68 (.slice y.1 y.2.1 y.2.2) r] := by
  unfold history_cloneValues at hf
  refine calls_of_W (fn := Try.f44) (N := 22) Try.func44 rfl Try.ntmps44 rfl ?_
  have hs : St ok (bz w0) w0 [vl (tSlice t_history_Value) x1 (.slice a2 x1.length c3)] [] := St.init (All.cons i0 All.nil)
  clear i0
  refine W.seqK fun K4 hK4 => ?_
  refine W.region ?_
  refine WL.assign (v := .slice none 0 0) rfl ?_
  refine WL.nil ?_
  refine hK4 _ _ ?_
  refine W.seqK fun K5 hK5 => ?_
  refine W.region ?_
  refine WL.assign (v := .slice none 0 0) rfl ?_
  refine WL.nil ?_
  refine hK5 _ _ ?_
  refine W.seqK fun K6 hK6 => ?_
  have hs := hs.ownNil t_history_Value 68
  have Jk12 : ∀ (x8 : List history_Value) (a9 : Option Addr) (c10 : Nat) (n11 : Nat) (ρ : Env) (w : World), ρ 3 = .slice a9 n11 c10 → St ok (bz w0) w [] [own t_history_Value 68 (.slice a9 n11 c10) x8] → history_cloneValues.j1 x8 = some r → K6 ρ w := by
    intro x8 a9 c10 n11 ρ w h7_3 hs hf
    refine hK6 _ _ ?_
    unfold history_cloneValues.j1 at hf
    refine W.seqK fun K13 hK13 => ?_
    refine W.region ?_
    refine WL.move (v := .slice a9 n11 c10) h7_3 ?_
    refine WL.assign (v := .slice a9 n11 c10) rfl ?_
    refine WL.nil ?_
    refine hK13 _ _ ?_
    refine W.ret ?_
    have hr := Option.some.inj hf; subst hr
    exact ⟨_, resOk_one rfl rfl, (a9, n11, c10), rfl, (hs.mask [true]).pick []⟩
  refine W.seqK fun K14 hK14 => ?_
  refine W.region ?_
  refine WL.move (v := .slice a2 x1.length c3) rfl ?_
  refine WL.len (v := .slice a2 x1.length c3) rfl (len_slice UN31) ?_
  refine WL.move (v := .int .i64 0) rfl ?_
  refine WL.nil ?_
  refine hK14 _ _ ?_
  refine W.block ?_
  obtain ⟨bs21, hbs21, hfs21⟩ := bindE hf
  refine W.loop hbs21 (fun s ρ w => match s with | (x16, x20) => ∃ (a17 : Option Addr), ∃ (c18 : Nat), ∃ (n19 : Nat), ρ 3 = .slice a17 n19 c18 ∧ ρ 6 = .slice a2 x1.length c3 ∧ ρ 7 = .int .i64 (x1.length : Int) ∧ ρ 8 = .int .i64 x20 ∧ St ok (bz w0) w [vl (tSlice t_history_Value) x1 (.slice a2 x1.length c3)] [own t_history_Value 68 (.slice a17 n19 c18) x16]) ⟨none, 0, 0, rfl, rfl, rfl, rfl, (hs.mask [true]).pick [0]⟩ ?_
  intro s ρ w os21 hI hf hbbs21
  obtain ⟨x16, x20⟩ := s
  obtain ⟨a17, c18, n19, h15_3, h15_6, h15_7, h15_8, hs⟩ := hI
  unfold history_cloneValues.l1 at hf
  refine W.seqK fun K22 hK22 => ?_
  refine W.region ?_
  refine WL.bin (v := .bool (decide (x20 < (x1.length : Int)))) h15_8 h15_7 (ib_lss _ _ _) ?_
  refine WL.nil ?_
  refine hK22 _ _ ?_
  refine W.seqK fun K23 hK23 => ?_
  rcases iteE hf with ⟨hc24, hf⟩ | ⟨hc24, hf⟩
  {
  refine W.cond_true (bool_tr rfl hc24) ?_
  refine W.skip ?_
  refine hK23 _ _ ?_
  refine W.seqK fun K25 hK25 => ?_
  refine W.block ?_
  refine W.seqK fun K26 hK26 => ?_
  refine W.region ?_
  obtain ⟨x27, hxx27, hf⟩ := bindE hf
  refine WL.indexAddr hs 0 rfl UN31 TI68 h15_6 h15_8 hxx27 (fun ad28 hs => ?_)
  refine WL.loadP hs 0 rfl TI68 (.inl rfl) rfl (fun v29 hs => ?_)
  obtain ⟨cs30, hl31, rfl⟩ := hs.aggv (n := 10) 0 rfl rfl rfl
  refine WL.alloc hs ZV68 (fun g32 w hs => ?_)
  obtain ⟨a33, c34, rfl⟩ := open_history_Value hs 0 rfl
  have hs := hs.add (it := vl (tSlice tStr) x27.Elems (.slice a33 (x27.Elems).length c34)) fun ok hA => V_fld F_history_Value_Elems (hA.get 0 rfl) rfl rfl rfl
  refine WL.storeAll (vs := [bstr x27.Object, bstr x27.Field, .bool x27.Set, .int .i64 x27.N, bstr x27.S, .bool x27.HasMax, .int .i64 x27.Max, .int .i64 x27.Sum, .slice a33 (x27.Elems).length c34, .bool x27.Flag]) hs 0 rfl TI68 rfl rfl rfl rfl (ones_of rfl) rfl (fun w hs => ?_)
  refine WL.nil ?_
  refine hK26 _ _ ?_
  refine W.seqK fun K35 hK35 => ?_
  refine W.region ?_
  refine WL.fieldAddr (m := 8) rfl FA68_8 rfl ?_
  refine WL.load1 (v := .slice a33 (x27.Elems).length c34) hs 0 rfl TI59 rfl rfl ?_
  obtain ⟨x36, hxx36, hf⟩ := bindE hf
  refine WL.call (vs := [.slice a33 (x27.Elems).length c34]) hs FN50 ⟨rfl, trivial⟩ (fun ok hA => slices_Clone_string.calls (x1 := x27.Elems) hxx36 (hA.get 0 rfl)) ?_
  rintro ⟨a37, n38, c39⟩ w hs
  refine WL.fieldAddr (m := 8) rfl FA68_8 rfl ?_
  refine WL.store (vs := [.slice a37 n38 c39]) (cs' := [bstr x27.Object, bstr x27.Field, .bool x27.Set, .int .i64 x27.N, bstr x27.S, .bool x27.HasMax, .int .i64 x27.Max, .int .i64 x27.Sum, .slice a37 n38 c39, .bool x27.Flag]) hs 1 rfl TI59 rfl rfl rfl rfl (ones_of rfl) (Nat.le_of_ble_eq_true rfl) rfl (fun w hs => ?_)
  refine WL.nil ?_
  refine hK35 _ _ ?_
  refine W.region ?_
  refine WL.move (v := .slice a17 n19 c18) h15_3 ?_
  refine WL.loadN (vs := [bstr x27.Object, bstr x27.Field, .bool x27.Set, .int .i64 x27.N, bstr x27.S, .bool x27.HasMax, .int .i64 x27.Max, .int .i64 x27.Sum, .slice a37 n38 c39, .bool x27.Flag]) hs 1 rfl TI68 rfl rfl rfl ?_
  refine WL.buildSlice (n := 1) (vs := [(0, .agg ([bstr x27.Object, bstr x27.Field, .bool x27.Set, .int .i64 x27.N, bstr x27.S, .bool x27.HasMax, .int .i64 x27.Max, .int .i64 x27.Sum, .slice a37 n38 c39, .bool x27.Flag] : List Value).toArray)]) (cs := [bstr x27.Object, bstr x27.Field, .bool x27.Set, .int .i64 x27.N, bstr x27.S, .bool x27.HasMax, .int .i64 x27.Max, .int .i64 x27.Sum, .slice a37 n38 c39, .bool x27.Flag]) hs ⟨⟨rfl, rfl⟩, trivial⟩ (bls PS31 (by decide) rfl) (fun g40 w hs => ?_)
  obtain rfl := hs.ownLen 1 rfl
  have hs := hs.freezeOwn 1 rfl
  obtain ⟨x41, hxx41, hf⟩ := bindE hf
  obtain ⟨hbx41, hex41⟩ := appE hxx41
  refine WL.append (ys := [(⟨x27.Object, x27.Field, x27.Set, x27.N, x27.S, x27.HasMax, x27.Max, x27.Sum, x36, x27.Flag⟩ : history_Value)]) (zs := x41) hs 2 rfl 0 rfl UN31 EI68 rfl rfl (fun ok hA => (Cells.one (T := t_history_Value) (show t_history_Value.R ok _ (⟨x27.Object, x27.Field, x27.Set, x27.N, x27.S, x27.HasMax, x27.Max, x27.Sum, x36, x27.Flag⟩ : history_Value) _ from ⟨[bstr x27.Object], [bstr x27.Field, .bool x27.Set, .int .i64 x27.N, bstr x27.S, .bool x27.HasMax, .int .i64 x27.Max, .int .i64 x27.Sum, .slice a37 x36.length c39, .bool x27.Flag], rfl, rfl, ⟨[bstr x27.Field], [.bool x27.Set, .int .i64 x27.N, bstr x27.S, .bool x27.HasMax, .int .i64 x27.Max, .int .i64 x27.Sum, .slice a37 x36.length c39, .bool x27.Flag], rfl, rfl, ⟨[.bool x27.Set], [.int .i64 x27.N, bstr x27.S, .bool x27.HasMax, .int .i64 x27.Max, .int .i64 x27.Sum, .slice a37 x36.length c39, .bool x27.Flag], rfl, rfl, ⟨[.int .i64 x27.N], [bstr x27.S, .bool x27.HasMax, .int .i64 x27.Max, .int .i64 x27.Sum, .slice a37 x36.length c39, .bool x27.Flag], rfl, rfl, ⟨[bstr x27.S], [.bool x27.HasMax, .int .i64 x27.Max, .int .i64 x27.Sum, .slice a37 x36.length c39, .bool x27.Flag], rfl, rfl, ⟨[.bool x27.HasMax], [.int .i64 x27.Max, .int .i64 x27.Sum, .slice a37 x36.length c39, .bool x27.Flag], rfl, rfl, ⟨[.int .i64 x27.Max], [.int .i64 x27.Sum, .slice a37 x36.length c39, .bool x27.Flag], rfl, rfl, ⟨[.int .i64 x27.Sum], [.slice a37 x36.length c39, .bool x27.Flag], rfl, rfl, ⟨[.slice a37 x36.length c39], [.bool x27.Flag], rfl, (R_one (hA.get 0 rfl)), rfl⟩⟩⟩⟩⟩⟩⟩⟩⟩))) hbx41 (by omega) hex41 (fun v42 w hs => ?_)
  obtain ⟨a43, n45, c44, rfl⟩ := hs.ownv3 2 rfl
  refine WL.assign (v := .slice a43 n45 c44) rfl ?_
  refine WL.nil ?_
  refine hK25 _ _ ?_
  refine W.region ?_
  obtain ⟨x46, ex46, hf⟩ := letE hf
  refine WL.bin (v := .int .i64 x46) h15_8 rfl (ib_as ex46 (ib_add _ _ _)) ?_
  refine WL.move (v := .int .i64 x46) rfl ?_
  refine WL.nil ?_
  exact ⟨_, (Option.some.inj hf).symm, a43, c44, n45, rfl, h15_6, h15_7, rfl, (hs.mask [false, false, true]).pick [4]⟩ }
  {
  refine W.cond_false (bool_tr rfl hc24) ?_
  refine W.exit ?_
  have hr := Option.some.inj hf; subst hr
  have hr := hbbs21 _ rfl; subst hr
  have hf := hfs21
  exact Jk12 x16 a17 c18 n19 _ _ h15_3 ((hs.mask [true]).pick []) hf }
theorem history_Before.calls {ok : Nat → Prop} {w0 : World} {x1 : history_History} {x5 : Int} {v2 : Value} {r : history_History} (hf : history_Before x1 x5 = some r) (i0 : (vl t_history_History x1 v2).holds ok w0) :
    Calls Try.prog 19 #[v2, .int .i64 x5] w0 fun e w' => ∃ v, e = .returned v ∧ ∃ y : (Option Addr × Nat × Nat), v = .agg ([.slice y.1 y.2.1 y.2.2] : List Value).toArray ∧ St ok (bz w0) w' [] [own t_history_Operation 35 (.slice y.1 y.2.1 y.2.2) r.Operations] := by
  unfold history_Before at hf
  refine calls_of_W (fn := Try.f19) (N := 44) Try.func19 rfl Try.ntmps19 rfl ?_
  have hs : St ok (bz w0) w0 [vl t_history_History x1 v2] [] := St.init (All.cons i0 All.nil)
  clear i0
  obtain ⟨cs3, hl4, rfl⟩ := hs.aggv (n := 1) 0 rfl rfl rfl
  refine W.seqK fun K6 hK6 => ?_
  refine W.region ?_
  refine WL.box (vs := cs3) hs rfl rfl (fun g7 w hs => ?_)
  refine WL.alloc hs ZV24 (fun g8 w hs => ?_)
  refine WL.nil ?_
  refine hK6 _ _ ?_
  refine W.seqK fun K9 hK9 => ?_
  refine W.region ?_
  refine WL.alloc hs ZV24 (fun g10 w hs => ?_)
  refine WL.nil ?_
  refine hK9 _ _ ?_
  refine W.seqK fun K11 hK11 => ?_
  have hs := hs.ownNil t_history_Operation 35
  have Jk17 : ∀ (x13 : List history_Operation) (a14 : Option Addr) (c15 : Nat) (n16 : Nat) (ρ : Env) (w : World), ρ 4 = .pointer (some ⟨g8, 0, none⟩) → ρ 5 = .pointer (some ⟨g10, 0, none⟩) → St ok (bz w0) w [] [own t_history_Operation 35 (.slice a14 n16 c15) x13, blk g10 24 [.slice a14 n16 c15], blk g8 24 [.slice none 0 0]] → history_Before.j1 x13 = some r → K11 ρ w := by
    intro x13 a14 c15 n16 ρ w h12_4 h12_5 hs hf
    refine hK11 _ _ ?_
    unfold history_Before.j1 at hf
    refine W.seqK fun K18 hK18 => ?_
    refine W.region ?_
    refine WL.loadN (vs := [.slice a14 n16 c15]) hs 1 rfl TI24 h12_5 rfl rfl ?_
    refine WL.storeAll (vs := [.slice a14 n16 c15]) hs 2 rfl TI24 h12_4 rfl rfl rfl (ones_of rfl) rfl (fun w hs => ?_)
    refine WL.nil ?_
    refine hK18 _ _ ?_
    refine W.ret ?_
    have hr := Option.some.inj hf; subst hr
    exact ⟨_, resOk_one rfl (res_all hs 2 rfl TI24 h12_4 rfl), (a14, n16, c15), rfl, (hs.mask [true]).pick []⟩
  refine W.seqK fun K19 hK19 => ?_
  refine W.region ?_
  refine WL.fieldAddr (m := 0) rfl FA24_0 rfl ?_
  refine WL.loadF (z := x1.Operations) F_history_History_Operations hs 3 rfl 0 rfl rfl TI22 (.inr rfl) rfl rfl (fun v20 hs => ?_)
  obtain ⟨a21, c22, rfl⟩ := hs.slice 0 rfl
  refine WL.len (v := .slice a21 (x1.Operations).length c22) rfl (len_slice UN22) ?_
  refine WL.move (v := .int .i64 0) rfl ?_
  refine WL.nil ?_
  refine hK19 _ _ ?_
  refine W.block ?_
  obtain ⟨bs29, hbs29, hfs29⟩ := bindE hf
  refine W.loop hbs29 (fun s ρ w => match s with | (x24, x25) => ∃ (a26 : Option Addr), ∃ (c27 : Nat), ∃ (n28 : Nat), ρ 1 = .int .i64 x5 ∧ ρ 4 = .pointer (some ⟨g8, 0, none⟩) ∧ ρ 5 = .pointer (some ⟨g10, 0, none⟩) ∧ ρ 9 = .slice a21 (x1.Operations).length c22 ∧ ρ 10 = .int .i64 ((x1.Operations).length : Int) ∧ ρ 11 = .int .i64 x24 ∧ St ok (bz w0) w [vl (tSlice t_history_Operation) x1.Operations (.slice a21 (x1.Operations).length c22)] [own t_history_Operation 35 (.slice a26 n28 c27) x25, blk g10 24 [.slice a26 n28 c27], blk g8 24 [.slice none 0 0]]) ⟨none, 0, 0, rfl, rfl, rfl, rfl, rfl, rfl, (hs.mask [true, true, true]).pick [0]⟩ ?_
  intro s ρ w os29 hI hf hbbs29
  obtain ⟨x24, x25⟩ := s
  obtain ⟨a26, c27, n28, h23_1, h23_4, h23_5, h23_9, h23_10, h23_11, hs⟩ := hI
  unfold history_Before.l1 at hf
  refine W.seqK fun K30 hK30 => ?_
  refine W.region ?_
  refine WL.bin (v := .bool (decide (x24 < ((x1.Operations).length : Int)))) h23_11 h23_10 (ib_lss _ _ _) ?_
  refine WL.nil ?_
  refine hK30 _ _ ?_
  refine W.seqK fun K31 hK31 => ?_
  rcases iteE hf with ⟨hc32, hf⟩ | ⟨hc32, hf⟩
  {
  refine W.cond_true (bool_tr rfl hc32) ?_
  refine W.skip ?_
  refine hK31 _ _ ?_
  refine W.seqK fun K33 hK33 => ?_
  have Jk39 : ∀ (x35 : List history_Operation) (a36 : Option Addr) (c37 : Nat) (n38 : Nat) (ρ : Env) (w : World), ρ 1 = .int .i64 x5 → ρ 4 = .pointer (some ⟨g8, 0, none⟩) → ρ 5 = .pointer (some ⟨g10, 0, none⟩) → ρ 9 = .slice a21 (x1.Operations).length c22 → ρ 10 = .int .i64 ((x1.Operations).length : Int) → ρ 11 = .int .i64 x24 → St ok (bz w0) w [vl (tSlice t_history_Operation) x1.Operations (.slice a21 (x1.Operations).length c22)] [own t_history_Operation 35 (.slice a36 n38 c37) x35, blk g10 24 [.slice a36 n38 c37], blk g8 24 [.slice none 0 0]] → history_Before.j2 x24 x35 = some os29 → K33 ρ w := by
    intro x35 a36 c37 n38 ρ w h34_1 h34_4 h34_5 h34_9 h34_10 h34_11 hs hf
    refine hK33 _ _ ?_
    unfold history_Before.j2 at hf
    refine W.region ?_
    obtain ⟨x40, ex40, hf⟩ := letE hf
    refine WL.bin (v := .int .i64 x40) h34_11 rfl (ib_as ex40 (ib_add _ _ _)) ?_
    refine WL.move (v := .int .i64 x40) rfl ?_
    refine WL.nil ?_
    exact ⟨_, (Option.some.inj hf).symm, a36, c37, n38, h34_1, h34_4, h34_5, h34_9, h34_10, rfl, (hs.mask [true, true, true]).pick [0]⟩
  refine W.block ?_
  refine W.seqK fun K41 hK41 => ?_
  refine W.region ?_
  obtain ⟨x42, hxx42, hf⟩ := bindE hf
  refine WL.indexAddr hs 0 rfl UN22 TI35 h23_9 h23_11 hxx42 (fun ad43 hs => ?_)
  refine WL.loadP hs 0 rfl TI35 (.inl rfl) rfl (fun v44 hs => ?_)
  obtain ⟨cs45, hl46, rfl⟩ := hs.aggv (n := 6) 0 rfl rfl rfl
  refine WL.alloc hs ZV35 (fun g47 w hs => ?_)
  obtain ⟨a48, c49, a50, c51, rfl⟩ := open_history_Operation hs 0 rfl
  have hs := hs.add (it := vl (tSlice t_api_Effect) x42.Effects (.slice a48 (x42.Effects).length c49)) fun ok hA => V_fld F_history_Operation_Effects (hA.get 0 rfl) rfl rfl rfl
  have hs := hs.add (it := vl (tSlice t_history_Value) x42.Result (.slice a50 (x42.Result).length c51)) fun ok hA => V_fld F_history_Operation_Result (hA.get 1 rfl) rfl rfl rfl
  refine WL.storeAll (vs := [.int .i64 x42.Process, .int .i64 x42.Kind, .slice a48 (x42.Effects).length c49, .slice a50 (x42.Result).length c51, .int .i64 x42.Call, .int .i64 x42.Return]) hs 0 rfl TI35 rfl rfl rfl rfl (ones_of rfl) rfl (fun w hs => ?_)
  refine WL.nil ?_
  refine hK41 _ _ ?_
  refine W.seqK fun K52 hK52 => ?_
  refine W.seqK fun K53 hK53 => ?_
  refine W.region ?_
  refine WL.fieldAddr (m := 4) rfl FA35_4 rfl ?_
  refine WL.load1 (v := .int .i64 x42.Call) hs 0 rfl TI3 rfl rfl ?_
  refine WL.move (v := .int .i64 x5) h23_1 ?_
  refine WL.bin (v := .bool (decide (x5 ≤ x42.Call))) rfl rfl (ib_geq _ _ _) ?_
  refine WL.nil ?_
  refine hK53 _ _ ?_
  rcases iteE hf with ⟨hc54, hf⟩ | ⟨hc54, hf⟩
  {
  refine W.cond_true (bool_tr rfl hc54) ?_
  refine W.exit ?_
  exact Jk39 x25 a26 c27 n28 _ _ h23_1 h23_4 h23_5 h23_9 h23_10 h23_11 ((hs.mask [false, true, true, true]).pick [4]) hf }
  {
  refine W.cond_false (bool_tr rfl hc54) ?_
  refine W.skip ?_
  refine hK52 _ _ ?_
  refine W.seqK fun K55 hK55 => ?_
  refine W.region ?_
  refine WL.fieldAddr (m := 2) rfl FA35_2 rfl ?_
  refine WL.load1 (v := .slice a48 (x42.Effects).length c49) hs 0 rfl TI30 rfl rfl ?_
  obtain ⟨x56, hxx56, hf⟩ := bindE hf
  refine WL.call (vs := [.slice a48 (x42.Effects).length c49]) hs FN43 ⟨rfl, trivial⟩ (fun ok hA => slices_Clone_Effect.calls (x1 := x42.Effects) hxx56 (hA.get 1 rfl)) ?_
  rintro ⟨a57, n58, c59⟩ w hs
  refine WL.fieldAddr (m := 2) rfl FA35_2 rfl ?_
  refine WL.store (vs := [.slice a57 n58 c59]) (cs' := [.int .i64 x42.Process, .int .i64 x42.Kind, .slice a57 n58 c59, .slice a50 (x42.Result).length c51, .int .i64 x42.Call, .int .i64 x42.Return]) hs 1 rfl TI30 rfl rfl rfl rfl (ones_of rfl) (Nat.le_of_ble_eq_true rfl) rfl (fun w hs => ?_)
  refine WL.nil ?_
  refine hK55 _ _ ?_
  refine W.seqK fun K60 hK60 => ?_
  have Jk63 : ∀ (x62 : Int) (ρ : Env) (w : World), ρ 1 = .int .i64 x5 → ρ 4 = .pointer (some ⟨g8, 0, none⟩) → ρ 5 = .pointer (some ⟨g10, 0, none⟩) → ρ 7 = .pointer (some ⟨g47, 0, none⟩) → ρ 9 = .slice a21 (x1.Operations).length c22 → ρ 10 = .int .i64 ((x1.Operations).length : Int) → ρ 11 = .int .i64 x24 → St ok (bz w0) w [vl (tSlice t_history_Operation) x1.Operations (.slice a21 (x1.Operations).length c22), vl (tSlice t_history_Value) x42.Result (.slice a50 (x42.Result).length c51)] [own t_api_Effect 72 (.slice a57 n58 c59) x56, blk g47 35 [.int .i64 x42.Process, .int .i64 x42.Kind, .slice a57 n58 c59, .slice a50 (x42.Result).length c51, .int .i64 x42.Call, .int .i64 x62], own t_history_Operation 35 (.slice a26 n28 c27) x25, blk g10 24 [.slice a26 n28 c27], blk g8 24 [.slice none 0 0]] → history_Before.j4 x24 x25 x42 x56 x62 = some os29 → K60 ρ w := by
    intro x62 ρ w h61_1 h61_4 h61_5 h61_7 h61_9 h61_10 h61_11 hs hf
    refine hK60 _ _ ?_
    unfold history_Before.j4 at hf
    refine W.seqK fun K64 hK64 => ?_
    have Jk69 : ∀ (x66 : List history_Value) (a67 : Option Addr) (c68 : Nat) (ρ : Env) (w : World), ρ 1 = .int .i64 x5 → ρ 4 = .pointer (some ⟨g8, 0, none⟩) → ρ 5 = .pointer (some ⟨g10, 0, none⟩) → ρ 7 = .pointer (some ⟨g47, 0, none⟩) → ρ 9 = .slice a21 (x1.Operations).length c22 → ρ 10 = .int .i64 ((x1.Operations).length : Int) → ρ 11 = .int .i64 x24 → St ok (bz w0) w [vl (tSlice t_history_Operation) x1.Operations (.slice a21 (x1.Operations).length c22), vl (tSlice t_history_Value) x66 (.slice a67 x66.length c68)] [own t_api_Effect 72 (.slice a57 n58 c59) x56, blk g47 35 [.int .i64 x42.Process, .int .i64 x42.Kind, .slice a57 n58 c59, .slice a67 x66.length c68, .int .i64 x42.Call, .int .i64 x62], own t_history_Operation 35 (.slice a26 n28 c27) x25, blk g10 24 [.slice a26 n28 c27], blk g8 24 [.slice none 0 0]] → history_Before.j3 x24 x25 x42 x56 x62 x66 = some os29 → K64 ρ w := by
      intro x66 a67 c68 ρ w h65_1 h65_4 h65_5 h65_7 h65_9 h65_10 h65_11 hs hf
      refine hK64 _ _ ?_
      unfold history_Before.j3 at hf
      refine W.seqK fun K70 hK70 => ?_
      refine W.region ?_
      refine WL.fieldAddr (m := 3) h65_7 FA35_3 rfl ?_
      refine WL.load1 (v := .slice a67 x66.length c68) hs 1 rfl TI31 rfl rfl ?_
      obtain ⟨x71, hxx71, hf⟩ := bindE hf
      refine WL.call (vs := [.slice a67 x66.length c68]) hs FN44 ⟨rfl, trivial⟩ (fun ok hA => history_cloneValues.calls (x1 := x66) hxx71 (hA.get 1 rfl)) ?_
      rintro ⟨a72, n73, c74⟩ w hs
      refine WL.fieldAddr (m := 3) h65_7 FA35_3 rfl ?_
      refine WL.store (vs := [.slice a72 n73 c74]) (cs' := [.int .i64 x42.Process, .int .i64 x42.Kind, .slice a57 n58 c59, .slice a72 n73 c74, .int .i64 x42.Call, .int .i64 x62]) hs 2 rfl TI31 rfl rfl rfl rfl (ones_of rfl) (Nat.le_of_ble_eq_true rfl) rfl (fun w hs => ?_)
      refine WL.nil ?_
      refine hK70 _ _ ?_
      refine W.region ?_
      refine WL.fieldAddr (m := 0) h65_5 FA24_0 rfl ?_
      refine WL.load1 (v := .slice a26 n28 c27) hs 4 rfl TI22 rfl rfl ?_
      refine WL.loadN (vs := [.int .i64 x42.Process, .int .i64 x42.Kind, .slice a57 n58 c59, .slice a72 n73 c74, .int .i64 x42.Call, .int .i64 x62]) hs 2 rfl TI35 h65_7 rfl rfl ?_
      refine WL.buildSlice (n := 1) (vs := [(0, .agg ([.int .i64 x42.Process, .int .i64 x42.Kind, .slice a57 n58 c59, .slice a72 n73 c74, .int .i64 x42.Call, .int .i64 x62] : List Value).toArray)]) (cs := [.int .i64 x42.Process, .int .i64 x42.Kind, .slice a57 n58 c59, .slice a72 n73 c74, .int .i64 x42.Call, .int .i64 x62]) hs ⟨⟨rfl, rfl⟩, trivial⟩ (bls PS22 (by decide) rfl) (fun g75 w hs => ?_)
      obtain rfl := hs.ownLen 2 rfl
      have hs := hs.freezeOwn 2 rfl
      obtain rfl := hs.ownLen 1 rfl
      have hs := hs.freezeOwn 1 rfl
      obtain ⟨x76, hxx76, hf⟩ := bindE hf
      obtain ⟨hbx76, hex76⟩ := appE hxx76
      refine WL.append (ys := [(⟨x42.Process, x42.Kind, x56, x71, x42.Call, x62⟩ : history_Operation)]) (zs := x76) hs 2 rfl 0 rfl UN22 EI35 rfl rfl (fun ok hA => (Cells.one (T := t_history_Operation) (show t_history_Operation.R ok _ (⟨x42.Process, x42.Kind, x56, x71, x42.Call, x62⟩ : history_Operation) _ from ⟨[.int .i64 x42.Process], [.int .i64 x42.Kind, .slice a57 x56.length c59, .slice a72 x71.length c74, .int .i64 x42.Call, .int .i64 x62], rfl, rfl, ⟨[.int .i64 x42.Kind], [.slice a57 x56.length c59, .slice a72 x71.length c74, .int .i64 x42.Call, .int .i64 x62], rfl, rfl, ⟨[.slice a57 x56.length c59], [.slice a72 x71.length c74, .int .i64 x42.Call, .int .i64 x62], rfl, (R_one (hA.get 1 rfl)), ⟨[.slice a72 x71.length c74], [.int .i64 x42.Call, .int .i64 x62], rfl, (R_one (hA.get 0 rfl)), ⟨[.int .i64 x42.Call], [.int .i64 x62], rfl, rfl, rfl⟩⟩⟩⟩⟩))) hbx76 (by omega) hex76 (fun v77 w hs => ?_)
      obtain ⟨a78, n80, c79, rfl⟩ := hs.ownv3 2 rfl
      refine WL.fieldAddr (m := 0) h65_5 FA24_0 rfl ?_
      refine WL.storeAll (vs := [.slice a78 n80 c79]) hs 3 rfl TI22 rfl rfl rfl rfl (ones_of rfl) rfl (fun w hs => ?_)
      refine WL.nil ?_
      exact Jk39 x76 a78 c79 n80 _ _ h65_1 h65_4 h65_5 h65_9 h65_10 h65_11 ((hs.mask [false, false, true, true, true]).pick [2]) hf
    refine W.seqK fun K81 hK81 => ?_
    refine W.region ?_
    refine WL.fieldAddr (m := 5) h61_7 FA35_5 rfl ?_
    refine WL.load1 (v := .int .i64 x62) hs 1 rfl TI3 rfl rfl ?_
    refine WL.bin (v := .bool (x62 == 0)) rfl rfl (ib_eql _ _ _) ?_
    refine WL.nil ?_
    refine hK81 _ _ ?_
    rcases iteE hf with ⟨hc82, hf⟩ | ⟨hc82, hf⟩
    {
    refine W.cond_true (bool_tr rfl hc82) ?_
    refine W.region ?_
    refine WL.fieldAddr (m := 3) h61_7 FA35_3 rfl ?_
    refine WL.store (vs := [.slice none 0 0]) (cs' := [.int .i64 x42.Process, .int .i64 x42.Kind, .slice a57 n58 c59, .slice none 0 0, .int .i64 x42.Call, .int .i64 x62]) hs 1 rfl TI31 rfl rfl rfl rfl (ones_of rfl) (Nat.le_of_ble_eq_true rfl) rfl (fun w hs => ?_)
    refine WL.nil ?_
    have hs := hs.add (it := vl (tSlice t_history_Value) [] (.slice none 0 0)) fun ok hA => V_nil
    exact Jk69 [] none 0 _ _ h61_1 h61_4 h61_5 h61_7 h61_9 h61_10 h61_11 ((hs.mask [true, true, true, true, true]).pick [1, 0]) hf }
    {
    refine W.cond_false (bool_tr rfl hc82) ?_
    refine W.skip ?_
    exact Jk69 x42.Result a50 c51 _ _ h61_1 h61_4 h61_5 h61_7 h61_9 h61_10 h61_11 ((hs.mask [true, true, true, true, true]).pick [0, 1]) hf }
  refine W.seqK fun K83 hK83 => ?_
  refine W.region ?_
  refine WL.fieldAddr (m := 5) rfl FA35_5 rfl ?_
  refine WL.load1 (v := .int .i64 x42.Return) hs 1 rfl TI3 rfl rfl ?_
  refine WL.move (v := .int .i64 x5) h23_1 ?_
  refine WL.bin (v := .bool (decide (x5 ≤ x42.Return))) rfl rfl (ib_geq _ _ _) ?_
  refine WL.nil ?_
  refine hK83 _ _ ?_
  rcases iteE hf with ⟨hc84, hf⟩ | ⟨hc84, hf⟩
  {
  refine W.cond_true (bool_tr rfl hc84) ?_
  refine W.region ?_
  refine WL.fieldAddr (m := 5) rfl FA35_5 rfl ?_
  refine WL.store (vs := [.int .i64 0]) (cs' := [.int .i64 x42.Process, .int .i64 x42.Kind, .slice a57 n58 c59, .slice a50 (x42.Result).length c51, .int .i64 x42.Call, .int .i64 0]) hs 1 rfl TI3 rfl rfl rfl rfl (ones_of rfl) (Nat.le_of_ble_eq_true rfl) rfl (fun w hs => ?_)
  refine WL.nil ?_
  exact Jk63 0 _ _ h23_1 h23_4 h23_5 rfl h23_9 h23_10 h23_11 ((hs.mask [true, true, true, true, true]).pick [4, 0]) hf }
  {
  refine W.cond_false (bool_tr rfl hc84) ?_
  refine W.skip ?_
  exact Jk63 x42.Return _ _ h23_1 h23_4 h23_5 rfl h23_9 h23_10 h23_11 ((hs.mask [true, true, true, true, true]).pick [4, 0]) hf } } }
  {
  refine W.cond_false (bool_tr rfl hc32) ?_
  refine W.exit ?_
  have hr := Option.some.inj hf; subst hr
  have hr := hbbs29 _ rfl; subst hr
  have hf := hfs29
  exact Jk17 x25 a26 c27 n28 _ _ h23_4 h23_5 ((hs.mask [true, true, true]).pick []) hf }
end Go.Proofs.Ytbbeobiampbddaa
