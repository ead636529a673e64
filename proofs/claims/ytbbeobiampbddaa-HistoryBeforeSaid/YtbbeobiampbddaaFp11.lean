import Derived.Test.YtbbeobiampbddaaFh
import Derived.Test.YtbbeobiampbddaaLz
import Derived.Test.YtbbeobiampbddaaMg
set_option linter.unusedVariables false
set_option linter.unusedSimpArgs false
namespace Go.Proofs.Ytbbeobiampbddaa
open Go Go.RowKit Go.Proofs.YtbbeobiampbddaaL
set_option maxRecDepth 100000
set_option maxHeartbeats 4000000
/-! elasticstore/elasticstoreref39.Before: function 20 -/
theorem esref39_Before.calls {ok : Nat → Prop} {w0 : World} {x1 : history_History} {x5 : Int} {v2 : Value} {r : history_History} (hf : esref39_Before x1 x5 = some r) (i0 : (vl t_history_History x1 v2).holds ok w0) :
    Calls Try.prog 20 #[v2, .int .i64 x5] w0 fun e w' => ∃ v, e = .returned v ∧ ∃ y : (Option Addr × Nat × Nat), v = .agg ([.slice y.1 y.2.1 y.2.2] : List Value).toArray ∧ St ok (bz w0) w' [] [own t_history_Operation 35 (.slice y.1 y.2.1 y.2.2) r.Operations] := by
  unfold esref39_Before at hf
  refine calls_of_W (fn := Try.f20) (N := 38) Try.func20 rfl Try.ntmps20 rfl ?_
  have hs : St ok (bz w0) w0 [vl t_history_History x1 v2] [] := St.init (All.cons i0 All.nil)
  clear i0
  obtain ⟨cs3, hl4, rfl⟩ := hs.aggv (n := 1) 0 rfl rfl rfl
  refine W.seqK fun K6 hK6 => ?_
  refine W.region ?_
  refine WL.box (vs := cs3) hs rfl rfl (fun g7 w hs => ?_)
  refine WL.alloc hs ZV24 (fun g8 w hs => ?_)
  refine WL.nil ?_
  refine hK6 _ _ ?_
  refine W.seqK fun K9 hK9 => ?_
  refine W.region ?_
  refine WL.build (vs := []) (cs := [.slice none 0 0]) trivial (bld PL24 rfl) ?_
  refine WL.alloc hs ZV24 (fun g10 w hs => ?_)
  refine WL.storeAll (vs := [.slice none 0 0]) hs 0 rfl TI24 rfl rfl rfl rfl (ones_of rfl) rfl (fun w hs => ?_)
  refine WL.nil ?_
  refine hK9 _ _ ?_
  refine W.seqK fun K11 hK11 => ?_
  have hs := hs.ownNil t_history_Operation 35
  have Jk17 : ∀ (x13 : List history_Operation) (a14 : Option Addr) (c15 : Nat) (n16 : Nat) (ρ : Env) (w : World), ρ 4 = .pointer (some ⟨g8, 0, none⟩) → ρ 5 = .pointer (some ⟨g10, 0, none⟩) → St ok (bz w0) w [] [own t_history_Operation 35 (.slice a14 n16 c15) x13, blk g10 24 [.slice a14 n16 c15], blk g8 24 [.slice none 0 0]] → esref39_Before.j1 x13 = some r → K11 ρ w := by
    intro x13 a14 c15 n16 ρ w h12_4 h12_5 hs hf
    refine hK11 _ _ ?_
    unfold esref39_Before.j1 at hf
    refine W.seqK fun K18 hK18 => ?_
    refine W.region ?_
    refine WL.loadN (vs := [.slice a14 n16 c15]) hs 1 rfl TI24 h12_5 rfl rfl ?_
    refine WL.storeAll (vs := [.slice a14 n16 c15]) hs 2 rfl TI24 h12_4 rfl rfl rfl (ones_of rfl) rfl (fun w hs => ?_)
    refine WL.nil ?_
    refine hK18 _ _ ?_
    refine W.ret ?_
    have hr := Option.some.inj hf; subst hr
    exact ⟨_, resOk_one rfl (res_all hs 2 rfl TI24 h12_4 rfl), (a14, n16, c15), rfl, (hs.mask [true]).pick []⟩
  refine W.seqK fun K19 hK19 => ?_
  refine W.region ?_
  refine WL.assign (v := .int .i64 0) rfl ?_
  refine WL.nil ?_
  refine hK19 _ _ ?_
  refine W.block ?_
  obtain ⟨bs26, hbs26, hfs26⟩ := bindE hf
  refine W.loop hbs26 (fun s ρ w => match s with | (x21, x22) => ∃ (a23 : Option Addr), ∃ (c24 : Nat), ∃ (n25 : Nat), ρ 1 = .int .i64 x5 ∧ ρ 2 = .pointer (some ⟨g7, 0, none⟩) ∧ ρ 4 = .pointer (some ⟨g8, 0, none⟩) ∧ ρ 5 = .pointer (some ⟨g10, 0, none⟩) ∧ ρ 6 = .int .i64 x21 ∧ St ok (bz w0) w [vl t_history_History x1 (.agg cs3.toArray)] [own t_history_Operation 35 (.slice a23 n25 c24) x22, blk g10 24 [.slice a23 n25 c24], blk g8 24 [.slice none 0 0], blk g7 24 cs3]) ⟨none, 0, 0, rfl, rfl, rfl, rfl, rfl, (hs.mask [true, true, true, true]).pick [0]⟩ ?_
  intro s ρ w os26 hI hf hbbs26
  obtain ⟨x21, x22⟩ := s
  obtain ⟨a23, c24, n25, h20_1, h20_2, h20_4, h20_5, h20_6, hs⟩ := hI
  unfold esref39_Before.l1 at hf
  refine W.seqK fun K27 hK27 => ?_
  refine W.seqK fun K28 hK28 => ?_
  refine W.region ?_
  refine WL.move (v := .int .i64 x21) h20_6 ?_
  refine WL.fieldAddr (m := 0) h20_2 FA24_0 rfl ?_
  refine WL.loadF (z := x1.Operations) F_history_History_Operations hs 3 rfl 0 rfl rfl TI22 (.inr rfl) rfl rfl (fun v29 hs => ?_)
  obtain ⟨a30, c31, rfl⟩ := hs.slice 0 rfl
  refine WL.len (v := .slice a30 (x1.Operations).length c31) rfl (len_slice UN22) ?_
  refine WL.bin (v := .bool (decide (x21 < ((x1.Operations).length : Int)))) rfl rfl (ib_lss _ _ _) ?_
  refine WL.nil ?_
  refine hK28 _ _ ?_
  rcases iteE hf with ⟨hc32, hf⟩ | ⟨hc32, hf⟩
  {
  refine W.cond_true (bool_tr rfl hc32) ?_
  refine W.skip ?_
  refine hK27 _ _ ?_
  refine W.seqK fun K33 hK33 => ?_
  have Jk39 : ∀ (x35 : List history_Operation) (a36 : Option Addr) (c37 : Nat) (n38 : Nat) (ρ : Env) (w : World), ρ 1 = .int .i64 x5 → ρ 2 = .pointer (some ⟨g7, 0, none⟩) → ρ 4 = .pointer (some ⟨g8, 0, none⟩) → ρ 5 = .pointer (some ⟨g10, 0, none⟩) → ρ 6 = .int .i64 x21 → St ok (bz w0) w [vl t_history_History x1 (.agg cs3.toArray)] [own t_history_Operation 35 (.slice a36 n38 c37) x35, blk g10 24 [.slice a36 n38 c37], blk g8 24 [.slice none 0 0], blk g7 24 cs3] → esref39_Before.j2 x21 x35 = some os26 → K33 ρ w := by
    intro x35 a36 c37 n38 ρ w h34_1 h34_2 h34_4 h34_5 h34_6 hs hf
    refine hK33 _ _ ?_
    unfold esref39_Before.j2 at hf
    refine W.region ?_
    refine WL.move (v := .int .i64 x21) h34_6 ?_
    obtain ⟨x40, ex40, hf⟩ := letE hf
    refine WL.bin (v := .int .i64 x40) rfl rfl (ib_as ex40 (ib_add _ _ _)) ?_
    refine WL.assign (v := .int .i64 x40) rfl ?_
    refine WL.nil ?_
    exact ⟨_, (Option.some.inj hf).symm, a36, c37, n38, h34_1, h34_2, h34_4, h34_5, rfl, (hs.mask [true, true, true, true]).pick [0]⟩
  refine W.block ?_
  refine W.seqK fun K41 hK41 => ?_
  refine W.region ?_
  refine WL.fieldAddr (m := 0) h20_2 FA24_0 rfl ?_
  refine WL.loadF (z := x1.Operations) F_history_History_Operations hs 3 rfl 1 rfl rfl TI22 (.inr rfl) rfl rfl (fun v42 hs => ?_)
  obtain ⟨a43, c44, rfl⟩ := hs.slice 0 rfl
  refine WL.move (v := .int .i64 x21) h20_6 ?_
  obtain ⟨x45, hxx45, hf⟩ := bindE hf
  refine WL.indexAddr hs 0 rfl UN22 TI35 rfl rfl hxx45 (fun ad46 hs => ?_)
  refine WL.loadP hs 0 rfl TI35 (.inl rfl) rfl (fun v47 hs => ?_)
  obtain ⟨cs48, hl49, rfl⟩ := hs.aggv (n := 6) 0 rfl rfl rfl
  refine WL.alloc hs ZV35 (fun g50 w hs => ?_)
  obtain ⟨a51, c52, a53, c54, rfl⟩ := open_history_Operation hs 0 rfl
  have hs := hs.add (it := vl (tSlice t_api_Effect) x45.Effects (.slice a51 (x45.Effects).length c52)) fun ok hA => V_fld F_history_Operation_Effects (hA.get 0 rfl) rfl rfl rfl
  have hs := hs.add (it := vl (tSlice t_history_Value) x45.Result (.slice a53 (x45.Result).length c54)) fun ok hA => V_fld F_history_Operation_Result (hA.get 1 rfl) rfl rfl rfl
  refine WL.storeAll (vs := [.int .i64 x45.Process, .int .i64 x45.Kind, .slice a51 (x45.Effects).length c52, .slice a53 (x45.Result).length c54, .int .i64 x45.Call, .int .i64 x45.Return]) hs 0 rfl TI35 rfl rfl rfl rfl (ones_of rfl) rfl (fun w hs => ?_)
  refine WL.nil ?_
  refine hK41 _ _ ?_
  refine W.seqK fun K55 hK55 => ?_
  refine W.seqK fun K56 hK56 => ?_
  refine W.region ?_
  refine WL.fieldAddr (m := 4) rfl FA35_4 rfl ?_
  refine WL.load1 (v := .int .i64 x45.Call) hs 0 rfl TI3 rfl rfl ?_
  refine WL.move (v := .int .i64 x5) h20_1 ?_
  refine WL.bin (v := .bool (decide (x5 ≤ x45.Call))) rfl rfl (ib_geq _ _ _) ?_
  refine WL.nil ?_
  refine hK56 _ _ ?_
  rcases iteE hf with ⟨hc57, hf⟩ | ⟨hc57, hf⟩
  {
  refine W.cond_true (bool_tr rfl hc57) ?_
  refine W.exit ?_
  exact Jk39 x22 a23 c24 n25 _ _ h20_1 h20_2 h20_4 h20_5 h20_6 ((hs.mask [false, true, true, true, true]).pick [6]) hf }
  {
  refine W.cond_false (bool_tr rfl hc57) ?_
  refine W.skip ?_
  refine hK55 _ _ ?_
  refine W.seqK fun K58 hK58 => ?_
  have Jk64 : ∀ (x60 : List history_Value) (x63 : Int) (a61 : Option Addr) (c62 : Nat) (ρ : Env) (w : World), ρ 1 = .int .i64 x5 → ρ 2 = .pointer (some ⟨g7, 0, none⟩) → ρ 4 = .pointer (some ⟨g8, 0, none⟩) → ρ 5 = .pointer (some ⟨g10, 0, none⟩) → ρ 6 = .int .i64 x21 → ρ 7 = .pointer (some ⟨g50, 0, none⟩) → St ok (bz w0) w [vl (tSlice t_api_Effect) x45.Effects (.slice a51 (x45.Effects).length c52), vl (tSlice t_history_Value) x60 (.slice a61 x60.length c62), vl t_history_History x1 (.agg cs3.toArray)] [blk g50 35 [.int .i64 x45.Process, .int .i64 x45.Kind, .slice a51 (x45.Effects).length c52, .slice a61 x60.length c62, .int .i64 x45.Call, .int .i64 x63], own t_history_Operation 35 (.slice a23 n25 c24) x22, blk g10 24 [.slice a23 n25 c24], blk g8 24 [.slice none 0 0], blk g7 24 cs3] → esref39_Before.j3 x21 x22 x45 x60 x63 = some os26 → K58 ρ w := by
    intro x60 x63 a61 c62 ρ w h59_1 h59_2 h59_4 h59_5 h59_6 h59_7 hs hf
    refine hK58 _ _ ?_
    unfold esref39_Before.j3 at hf
    refine W.region ?_
    refine WL.fieldAddr (m := 0) h59_5 FA24_0 rfl ?_
    refine WL.load1 (v := .slice a23 n25 c24) hs 2 rfl TI22 rfl rfl ?_
    refine WL.loadN (vs := [.int .i64 x45.Process, .int .i64 x45.Kind, .slice a51 (x45.Effects).length c52, .slice a61 x60.length c62, .int .i64 x45.Call, .int .i64 x63]) hs 0 rfl TI35 h59_7 rfl rfl ?_
    refine WL.buildSlice (n := 1) (vs := [(0, .agg ([.int .i64 x45.Process, .int .i64 x45.Kind, .slice a51 (x45.Effects).length c52, .slice a61 x60.length c62, .int .i64 x45.Call, .int .i64 x63] : List Value).toArray)]) (cs := [.int .i64 x45.Process, .int .i64 x45.Kind, .slice a51 (x45.Effects).length c52, .slice a61 x60.length c62, .int .i64 x45.Call, .int .i64 x63]) hs ⟨⟨rfl, rfl⟩, trivial⟩ (bls PS22 (by decide) rfl) (fun g65 w hs => ?_)
    obtain ⟨x66, hxx66, hf⟩ := bindE hf
    obtain ⟨hbx66, hex66⟩ := appE hxx66
    refine WL.append (ys := [(⟨x45.Process, x45.Kind, x45.Effects, x60, x45.Call, x63⟩ : history_Operation)]) (zs := x66) hs 2 rfl 0 rfl UN22 EI35 rfl rfl (fun ok hA => (Cells.one (T := t_history_Operation) (show t_history_Operation.R ok _ (⟨x45.Process, x45.Kind, x45.Effects, x60, x45.Call, x63⟩ : history_Operation) _ from ⟨[.int .i64 x45.Process], [.int .i64 x45.Kind, .slice a51 (x45.Effects).length c52, .slice a61 x60.length c62, .int .i64 x45.Call, .int .i64 x63], rfl, rfl, ⟨[.int .i64 x45.Kind], [.slice a51 (x45.Effects).length c52, .slice a61 x60.length c62, .int .i64 x45.Call, .int .i64 x63], rfl, rfl, ⟨[.slice a51 (x45.Effects).length c52], [.slice a61 x60.length c62, .int .i64 x45.Call, .int .i64 x63], rfl, (R_one (hA.get 0 rfl)), ⟨[.slice a61 x60.length c62], [.int .i64 x45.Call, .int .i64 x63], rfl, (R_one (hA.get 1 rfl)), ⟨[.int .i64 x45.Call], [.int .i64 x63], rfl, rfl, rfl⟩⟩⟩⟩⟩))) hbx66 (by omega) hex66 (fun v67 w hs => ?_)
    obtain ⟨a68, n70, c69, rfl⟩ := hs.ownv3 2 rfl
    refine WL.fieldAddr (m := 0) h59_5 FA24_0 rfl ?_
    refine WL.storeAll (vs := [.slice a68 n70 c69]) hs 3 rfl TI22 rfl rfl rfl rfl (ones_of rfl) rfl (fun w hs => ?_)
    refine WL.nil ?_
    exact Jk39 x66 a68 c69 n70 _ _ h59_1 h59_2 h59_4 h59_5 h59_6 ((hs.mask [false, false, true, true, true, true]).pick [2]) hf
  refine W.seqK fun K71 hK71 => ?_
  refine W.region ?_
  refine WL.fieldAddr (m := 5) rfl FA35_5 rfl ?_
  refine WL.load1 (v := .int .i64 x45.Return) hs 0 rfl TI3 rfl rfl ?_
  refine WL.move (v := .int .i64 x5) h20_1 ?_
  refine WL.bin (v := .bool (decide (x5 ≤ x45.Return))) rfl rfl (ib_geq _ _ _) ?_
  refine WL.nil ?_
  refine hK71 _ _ ?_
  rcases iteE hf with ⟨hc72, hf⟩ | ⟨hc72, hf⟩
  {
  refine W.cond_true (bool_tr rfl hc72) ?_
  refine W.seqK fun K73 hK73 => ?_
  refine W.region ?_
  refine WL.fieldAddr (m := 5) rfl FA35_5 rfl ?_
  refine WL.store (vs := [.int .i64 0]) (cs' := [.int .i64 x45.Process, .int .i64 x45.Kind, .slice a51 (x45.Effects).length c52, .slice a53 (x45.Result).length c54, .int .i64 x45.Call, .int .i64 0]) hs 0 rfl TI3 rfl rfl rfl rfl (ones_of rfl) (Nat.le_of_ble_eq_true rfl) rfl (fun w hs => ?_)
  refine WL.nil ?_
  refine hK73 _ _ ?_
  refine W.region ?_
  refine WL.fieldAddr (m := 3) rfl FA35_3 rfl ?_
  refine WL.store (vs := [.slice none 0 0]) (cs' := [.int .i64 x45.Process, .int .i64 x45.Kind, .slice a51 (x45.Effects).length c52, .slice none 0 0, .int .i64 x45.Call, .int .i64 0]) hs 0 rfl TI31 rfl rfl rfl rfl (ones_of rfl) (Nat.le_of_ble_eq_true rfl) rfl (fun w hs => ?_)
  refine WL.nil ?_
  have hs := hs.add (it := vl (tSlice t_history_Value) [] (.slice none 0 0)) fun ok hA => V_nil
  exact Jk64 [] 0 none 0 _ _ h20_1 h20_2 h20_4 h20_5 h20_6 rfl ((hs.mask [true, true, true, true, true]).pick [2, 0, 7]) hf }
  {
  refine W.cond_false (bool_tr rfl hc72) ?_
  refine W.skip ?_
  exact Jk64 x45.Result x45.Return a53 c54 _ _ h20_1 h20_2 h20_4 h20_5 h20_6 rfl ((hs.mask [true, true, true, true, true]).pick [1, 0, 6]) hf } } }
  {
  refine W.cond_false (bool_tr rfl hc32) ?_
  refine W.exit ?_
  have hr := Option.some.inj hf; subst hr
  have hr := hbbs26 _ rfl; subst hr
  have hf := hfs26
  exact Jk17 x22 a23 c24 n25 _ _ h20_4 h20_5 ((hs.mask [true, true, true]).pick []) hf }
theorem esref39_Before.callc {ok : Nat → Prop} {w0 : World} {x1 : history_History} {x5 : Int} {v2 : Value} {r : history_History} (hf : esref39_Before x1 x5 = some r) (i0 : (vl t_history_History x1 v2).holds ok w0) :
    Calls Try.prog 20 #[v2, .int .i64 x5] w0 fun e w' => ∃ v, e = .returned v ∧ ∃ y : List Value, v = .agg y.toArray ∧ St ok (bz w0) w' [vl t_history_History r (.agg y.toArray)] [] := by
  refine (esref39_Before.calls (ok := ok) (w0 := w0) (x1 := x1) (x5 := x5) hf i0).mono ?_
  rintro e w' ⟨v, rfl, ⟨a75, n76, c77⟩, rfl, hs⟩
  obtain rfl := hs.ownLen 0 rfl
  have hs := hs.freezeOwn 0 rfl
  have hs := hs.add (it := vl t_history_History (⟨r.Operations⟩ : history_History) (.agg [.slice a75 (r.Operations).length c77].toArray)) fun ok hA => V_agg ((R_one (hA.get 0 rfl))) rfl
  exact ⟨_, rfl, [.slice a75 (r.Operations).length c77], rfl, hs.pick [0]⟩
/-! elasticstore/elasticstoreref32.EqualStrings: function 34 -/
theorem esref32_EqualStrings.calls {ok : Nat → Prop} {w0 : World} {x1 : List (List UInt8)} {x4 : List (List UInt8)} {a2 : Option Addr} {c3 : Nat} {a5 : Option Addr} {c6 : Nat} {r : Bool} (hf : esref32_EqualStrings x1 x4 = some r) (i0 : (vl (tSlice tStr) x1 (.slice a2 x1.length c3)).holds ok w0) (i1 : (vl (tSlice tStr) x4 (.slice a5 x4.length c6)).holds ok w0) :
    Calls Try.prog 34 #[.slice a2 x1.length c3, .slice a5 x4.length c6] w0 fun e w' => ∃ v, e = .returned v ∧ ∃ y : Unit, v = .bool r ∧ St ok (bz w0) w' [] [] := by
  unfold esref32_EqualStrings at hf
  refine calls_of_W (fn := Try.f34) (N := 26) Try.func34 rfl Try.ntmps34 rfl ?_
  have hs : St ok (bz w0) w0 [vl (tSlice tStr) x1 (.slice a2 x1.length c3), vl (tSlice tStr) x4 (.slice a5 x4.length c6)] [] := St.init (All.cons i0 (All.cons i1 All.nil))
  clear i0 i1
  refine W.seqK fun K7 hK7 => ?_
  refine W.region ?_
  refine WL.assign (v := .bool false) rfl ?_
  refine WL.nil ?_
  refine hK7 _ _ ?_
  refine W.seqK fun K8 hK8 => ?_
  refine W.seqK fun K9 hK9 => ?_
  refine W.region ?_
  refine WL.move (v := .slice a2 x1.length c3) rfl ?_
  refine WL.len (v := .slice a2 x1.length c3) rfl (len_slice UN59) ?_
  refine WL.move (v := .slice a5 x4.length c6) rfl ?_
  refine WL.len (v := .slice a5 x4.length c6) rfl (len_slice UN59) ?_
  refine WL.bin (v := .bool ((x1.length : Int) != (x4.length : Int))) rfl rfl (ib_neq _ _ _) ?_
  refine WL.nil ?_
  refine hK9 _ _ ?_
  rcases iteE hf with ⟨hc10, hf⟩ | ⟨hc10, hf⟩
  {
  refine W.cond_true (bool_tr rfl hc10) ?_
  refine W.seqK fun K11 hK11 => ?_
  refine W.region ?_
  refine WL.assign (v := .bool false) rfl ?_
  refine WL.nil ?_
  refine hK11 _ _ ?_
  refine W.ret ?_
  have hr := Option.some.inj hf; subst hr
  exact ⟨_, resOk_one rfl rfl, (), rfl, (hs.mask []).pick []⟩ }
  {
  refine W.cond_false (bool_tr rfl hc10) ?_
  refine W.skip ?_
  refine hK8 _ _ ?_
  refine W.seqK fun K12 hK12 => ?_
  have Jk14 : ∀  (ρ : Env) (w : World), St ok (bz w0) w [] [] → esref32_EqualStrings.j1 = some r → K12 ρ w := by
    intro  ρ w  hs hf
    refine hK12 _ _ ?_
    unfold esref32_EqualStrings.j1 at hf
    refine W.seqK fun K15 hK15 => ?_
    refine W.region ?_
    refine WL.assign (v := .bool true) rfl ?_
    refine WL.nil ?_
    refine hK15 _ _ ?_
    refine W.ret ?_
    have hr := Option.some.inj hf; subst hr
    exact ⟨_, resOk_one rfl rfl, (), rfl, (hs.mask []).pick []⟩
  refine W.seqK fun K16 hK16 => ?_
  refine W.region ?_
  refine WL.assign (v := .int .i64 0) rfl ?_
  refine WL.nil ?_
  refine hK16 _ _ ?_
  refine W.block ?_
  obtain ⟨bs19, hbs19, hfs19⟩ := bindE hf
  refine W.loop hbs19 (fun s ρ w => match s with | x18 => ρ 0 = .slice a2 x1.length c3 ∧ ρ 1 = .slice a5 x4.length c6 ∧ ρ 5 = .int .i64 x18 ∧ St ok (bz w0) w [vl (tSlice tStr) x1 (.slice a2 x1.length c3), vl (tSlice tStr) x4 (.slice a5 x4.length c6)] []) ⟨rfl, rfl, rfl, (hs.mask []).pick [0, 1]⟩ ?_
  intro x18 ρ w os19 hI hf hbbs19
  obtain ⟨h17_0, h17_1, h17_5, hs⟩ := hI
  unfold esref32_EqualStrings.l1 at hf
  refine W.seqK fun K20 hK20 => ?_
  refine W.seqK fun K21 hK21 => ?_
  refine W.region ?_
  refine WL.move (v := .int .i64 x18) h17_5 ?_
  refine WL.move (v := .slice a2 x1.length c3) h17_0 ?_
  refine WL.len (v := .slice a2 x1.length c3) rfl (len_slice UN59) ?_
  refine WL.bin (v := .bool (decide (x18 < (x1.length : Int)))) rfl rfl (ib_lss _ _ _) ?_
  refine WL.nil ?_
  refine hK21 _ _ ?_
  rcases iteE hf with ⟨hc22, hf⟩ | ⟨hc22, hf⟩
  {
  refine W.cond_true (bool_tr rfl hc22) ?_
  refine W.skip ?_
  refine hK20 _ _ ?_
  refine W.seqK fun K23 hK23 => ?_
  refine W.block ?_
  refine W.seqK fun K24 hK24 => ?_
  obtain ⟨x25, hxx25, hf⟩ := bindE hf
  obtain ⟨x28, hxx28, hf⟩ := bindE hf
  refine W.any (by kernel_rfl) 9 0 [true, true, true, true, true, true, true, true, true] rfl rfl (poAt [pv (.slice a2 x1.length c3), pv (.int .i64 x18), pq (fun y : Addr => .pointer (some y)) (fun v => [pl tStr x25 (adOf v)]) (fun v => []), pv (bstr x25), pv (.slice a5 x4.length c6), pv (.int .i64 x18), pq (fun y : Addr => .pointer (some y)) (fun v => [pl tStr x28 (adOf v)]) (fun v => []), pv (bstr x28), pv (.bool (x25 != x28))]) (Λ := []) hs (by kernel_rfl) (by kernel_rfl) (by kernel_rfl) ⟨⟨⟨⟨⟨⟨⟨⟨⟨trivial, ?_⟩, ?_⟩, ?_⟩, ?_⟩, ?_⟩, ?_⟩, ?_⟩, ?_⟩, ?_⟩ ?_
  {
  intro ρ w Γx Λx hs hu hp
  refine WL.move (v := .slice a2 x1.length c3) ((hu 0 rfl).trans h17_0) ?_
  exact WL.nil ⟨rfl, _, rfl, rfl, hs.cutG 0 0⟩ }
  {
  intro ρ w Γx Λx hs hu hp
  refine WL.move (v := .int .i64 x18) ((hu 5 rfl).trans h17_5) ?_
  exact WL.nil ⟨rfl, _, rfl, rfl, hs.cutG 0 0⟩ }
  {
  intro ρ w Γx Λx hs hu hp
  have e31 : ρ 17 = .slice a2 x1.length c3 := (hp 0 rfl).1
  have e32 : ρ 18 = .int .i64 x18 := (hp 1 rfl).1
  refine WL.indexAddr hs (Γx.length + 0) (getApp rfl) UN59 TI9 e31 e32 hxx25 (fun ad26 hs => ?_)
  have hs := hs.add (it := pl tStr x25 ad26) fun ok hA => hA.get 0 rfl
  exact WL.nil ⟨rfl, _, rfl, ⟨ad26, rfl⟩, hs.cutG 1 1⟩ }
  {
  intro ρ w Γx Λx hs hu hp
  obtain ⟨⟨ad33, e34r⟩, hm35⟩ := hp 2 rfl
  have e34 : ρ 19 = .pointer (some ad33) := e34r
  rw [e34r] at hm35
  have hs := hs.memo1 (it := pl tStr x25 ad33) (List.mem_append.2 (.inl (hm35 _ (List.mem_of_getElem? (i := 0) rfl))))
  refine WL.loadP hs 0 rfl TI9 (.inr rfl) e34 (fun v27 hs => ?_)
  obtain rfl := hs.str 0 rfl
  exact WL.nil ⟨rfl, _, rfl, rfl, hs.cutG 0 2⟩ }
  {
  intro ρ w Γx Λx hs hu hp
  refine WL.move (v := .slice a5 x4.length c6) ((hu 1 rfl).trans h17_1) ?_
  exact WL.nil ⟨rfl, _, rfl, rfl, hs.cutG 0 0⟩ }
  {
  intro ρ w Γx Λx hs hu hp
  refine WL.move (v := .int .i64 x18) ((hu 5 rfl).trans h17_5) ?_
  exact WL.nil ⟨rfl, _, rfl, rfl, hs.cutG 0 0⟩ }
  {
  intro ρ w Γx Λx hs hu hp
  have e36 : ρ 21 = .slice a5 x4.length c6 := (hp 4 rfl).1
  have e37 : ρ 22 = .int .i64 x18 := (hp 5 rfl).1
  refine WL.indexAddr hs (Γx.length + 1) (getApp rfl) UN59 TI9 e36 e37 hxx28 (fun ad29 hs => ?_)
  have hs := hs.add (it := pl tStr x28 ad29) fun ok hA => hA.get 0 rfl
  exact WL.nil ⟨rfl, _, rfl, ⟨ad29, rfl⟩, hs.cutG 1 1⟩ }
  {
  intro ρ w Γx Λx hs hu hp
  obtain ⟨⟨ad38, e39r⟩, hm40⟩ := hp 6 rfl
  have e39 : ρ 23 = .pointer (some ad38) := e39r
  rw [e39r] at hm40
  have hs := hs.memo1 (it := pl tStr x28 ad38) (List.mem_append.2 (.inl (hm40 _ (List.mem_of_getElem? (i := 0) rfl))))
  refine WL.loadP hs 0 rfl TI9 (.inr rfl) e39 (fun v30 hs => ?_)
  obtain rfl := hs.str 0 rfl
  exact WL.nil ⟨rfl, _, rfl, rfl, hs.cutG 0 2⟩ }
  {
  intro ρ w Γx Λx hs hu hp
  have e41 : ρ 20 = bstr x25 := (hp 3 rfl).1
  have e42 : ρ 24 = bstr x28 := (hp 7 rfl).1
  refine WL.binS (v := .bool (x25 != x28)) e41 e42 (sb_neq _ _) ?_
  exact WL.nil ⟨rfl, _, rfl, rfl, hs.cutG 0 0⟩ }
  {
  intro ρ w hs hu43 hp
  obtain ⟨⟨⟨⟨⟨⟨⟨⟨⟨_, hp0_⟩, hp1_⟩, hp2_⟩, hp3_⟩, hp4_⟩, hp5_⟩, hp6_⟩, hp7_⟩, hp8_⟩ := hp
  have hs : St ok (bz w0) w [pl tStr x28 (adOf (ρ 23)), pl tStr x25 (adOf (ρ 19)), vl (tSlice tStr) x1 (.slice a2 x1.length c3), vl (tSlice tStr) x4 (.slice a5 x4.length c6)] [] := hs
  have e44 : ρ 25 = .bool (x25 != x28) := hp8_
  have e45 : ρ 24 = bstr x28 := hp7_
  obtain ⟨ad46, e47⟩ := hp6_
  have e47 : ρ 23 = .pointer (some ad46) := e47
  try rw [e47] at hs
  have e48 : ρ 22 = .int .i64 x18 := hp5_
  have e49 : ρ 21 = .slice a5 x4.length c6 := hp4_
  have e50 : ρ 20 = bstr x25 := hp3_
  obtain ⟨ad51, e52⟩ := hp2_
  have e52 : ρ 19 = .pointer (some ad51) := e52
  try rw [e52] at hs
  have e53 : ρ 18 = .int .i64 x18 := hp1_
  have e54 : ρ 17 = .slice a2 x1.length c3 := hp0_
  refine WA.done (by kernel_rfl) ?_
  refine hK24 _ _ ?_
  rcases iteE hf with ⟨hc55, hf⟩ | ⟨hc55, hf⟩
  {
  refine W.cond_true (bool_tr e44 hc55) ?_
  refine W.seqK fun K56 hK56 => ?_
  refine W.region ?_
  refine WL.assign (v := .bool false) rfl ?_
  refine WL.nil ?_
  refine hK56 _ _ ?_
  refine W.ret ?_
  have hr := Option.some.inj hf; subst hr
  have hr := hbbs19 _ rfl; subst hr
  have hf := hfs19
  have hr := Option.some.inj hf; subst hr
  exact ⟨_, resOk_one rfl rfl, (), rfl, (hs.mask []).pick []⟩ }
  {
  refine W.cond_false (bool_tr e44 hc55) ?_
  refine W.skip ?_
  refine hK23 _ _ ?_
  refine W.region ?_
  refine WL.move (v := .int .i64 x18) ((hu43 5 rfl).trans h17_5) ?_
  obtain ⟨x57, ex57, hf⟩ := letE hf
  refine WL.bin (v := .int .i64 x57) rfl rfl (ib_as ex57 (ib_add _ _ _)) ?_
  refine WL.assign (v := .int .i64 x57) rfl ?_
  refine WL.nil ?_
  exact ⟨_, (Option.some.inj hf).symm, ((hu43 0 rfl).trans h17_0), ((hu43 1 rfl).trans h17_1), rfl, (hs.mask []).pick [2, 3]⟩ } } }
  {
  refine W.cond_false (bool_tr rfl hc22) ?_
  refine W.exit ?_
  have hr := Option.some.inj hf; subst hr
  have hr := hbbs19 _ rfl; subst hr
  have hf := hfs19
  exact Jk14  _ _  ((hs.mask []).pick []) hf } }
/-! elasticstore/elasticstoreref39.SameValues: function 26 -/
theorem esref39_SameValues.calls {ok : Nat → Prop} {w0 : World} {x1 : List history_Value} {x4 : List history_Value} {a2 : Option Addr} {c3 : Nat} {a5 : Option Addr} {c6 : Nat} {r : Bool} (hf : esref39_SameValues x1 x4 = some r) (i0 : (vl (tSlice t_history_Value) x1 (.slice a2 x1.length c3)).holds ok w0) (i1 : (vl (tSlice t_history_Value) x4 (.slice a5 x4.length c6)).holds ok w0) :
    Calls Try.prog 26 #[.slice a2 x1.length c3, .slice a5 x4.length c6] w0 fun e w' => ∃ v, e = .returned v ∧ ∃ y : Unit, v = .bool r ∧ St ok (bz w0) w' [] [] := by
  unfold esref39_SameValues at hf
  refine calls_of_W (fn := Try.f26) (N := 96) Try.func26 rfl Try.ntmps26 rfl ?_
  have hs : St ok (bz w0) w0 [vl (tSlice t_history_Value) x1 (.slice a2 x1.length c3), vl (tSlice t_history_Value) x4 (.slice a5 x4.length c6)] [] := St.init (All.cons i0 (All.cons i1 All.nil))
  clear i0 i1
  refine W.seqK fun K7 hK7 => ?_
  refine W.region ?_
  refine WL.assign (v := .bool false) rfl ?_
  refine WL.nil ?_
  refine hK7 _ _ ?_
  refine W.seqK fun K8 hK8 => ?_
  refine W.seqK fun K9 hK9 => ?_
  refine W.region ?_
  refine WL.move (v := .slice a2 x1.length c3) rfl ?_
  refine WL.len (v := .slice a2 x1.length c3) rfl (len_slice UN31) ?_
  refine WL.move (v := .slice a5 x4.length c6) rfl ?_
  refine WL.len (v := .slice a5 x4.length c6) rfl (len_slice UN31) ?_
  refine WL.bin (v := .bool ((x1.length : Int) != (x4.length : Int))) rfl rfl (ib_neq _ _ _) ?_
  refine WL.nil ?_
  refine hK9 _ _ ?_
  rcases iteE hf with ⟨hc10, hf⟩ | ⟨hc10, hf⟩
  {
  refine W.cond_true (bool_tr rfl hc10) ?_
  refine W.seqK fun K11 hK11 => ?_
  refine W.region ?_
  refine WL.assign (v := .bool false) rfl ?_
  refine WL.nil ?_
  refine hK11 _ _ ?_
  refine W.ret ?_
  have hr := Option.some.inj hf; subst hr
  exact ⟨_, resOk_one rfl rfl, (), rfl, (hs.mask []).pick []⟩ }
  {
  refine W.cond_false (bool_tr rfl hc10) ?_
  refine W.skip ?_
  refine hK8 _ _ ?_
  refine W.seqK fun K12 hK12 => ?_
  have Jk14 : ∀  (ρ : Env) (w : World), St ok (bz w0) w [] [] → esref39_SameValues.j1 = some r → K12 ρ w := by
    intro  ρ w  hs hf
    refine hK12 _ _ ?_
    unfold esref39_SameValues.j1 at hf
    refine W.seqK fun K15 hK15 => ?_
    refine W.region ?_
    refine WL.assign (v := .bool true) rfl ?_
    refine WL.nil ?_
    refine hK15 _ _ ?_
    refine W.ret ?_
    have hr := Option.some.inj hf; subst hr
    exact ⟨_, resOk_one rfl rfl, (), rfl, (hs.mask []).pick []⟩
  refine W.seqK fun K16 hK16 => ?_
  refine W.region ?_
  refine WL.assign (v := .int .i64 0) rfl ?_
  refine WL.nil ?_
  refine hK16 _ _ ?_
  refine W.block ?_
  obtain ⟨bs19, hbs19, hfs19⟩ := bindE hf
  refine W.loop hbs19 (fun s ρ w => match s with | x18 => ρ 0 = .slice a2 x1.length c3 ∧ ρ 1 = .slice a5 x4.length c6 ∧ ρ 5 = .int .i64 x18 ∧ St ok (bz w0) w [vl (tSlice t_history_Value) x1 (.slice a2 x1.length c3), vl (tSlice t_history_Value) x4 (.slice a5 x4.length c6)] []) ⟨rfl, rfl, rfl, (hs.mask []).pick [0, 1]⟩ ?_
  intro x18 ρ w os19 hI hf hbbs19
  obtain ⟨h17_0, h17_1, h17_5, hs⟩ := hI
  unfold esref39_SameValues.l1 at hf
  refine W.seqK fun K20 hK20 => ?_
  refine W.seqK fun K21 hK21 => ?_
  refine W.region ?_
  refine WL.move (v := .int .i64 x18) h17_5 ?_
  refine WL.move (v := .slice a2 x1.length c3) h17_0 ?_
  refine WL.len (v := .slice a2 x1.length c3) rfl (len_slice UN31) ?_
  refine WL.bin (v := .bool (decide (x18 < (x1.length : Int)))) rfl rfl (ib_lss _ _ _) ?_
  refine WL.nil ?_
  refine hK21 _ _ ?_
  rcases iteE hf with ⟨hc22, hf⟩ | ⟨hc22, hf⟩
  {
  refine W.cond_true (bool_tr rfl hc22) ?_
  refine W.skip ?_
  refine hK20 _ _ ?_
  refine W.seqK fun K23 hK23 => ?_
  refine W.block ?_
  refine W.seqK fun K24 hK24 => ?_
  have Jk34 : ∀ (x27 : history_Value) (x31 : history_Value) (g26 : Nat) (cs28 : List Value) (g30 : Nat) (cs32 : List Value) (ρ : Env) (w : World), cs28.length = 10 → cs32.length = 10 → ρ 0 = .slice a2 x1.length c3 → ρ 1 = .slice a5 x4.length c6 → ρ 5 = .int .i64 x18 → ρ 6 = .pointer (some ⟨g26, 0, none⟩) → ρ 7 = .pointer (some ⟨g30, 0, none⟩) → St ok (bz w0) w [vl (tSlice t_history_Value) x1 (.slice a2 x1.length c3), vl (tSlice t_history_Value) x4 (.slice a5 x4.length c6), vl t_history_Value x27 (.agg cs28.toArray), vl t_history_Value x31 (.agg cs32.toArray)] [blk g26 68 cs28, blk g30 68 cs32] → esref39_SameValues.j3 x18 x27 x31 = some os19 → K24 ρ w := by
    intro x27 x31 g26 cs28 g30 cs32 ρ w hl29 hl33 h25_0 h25_1 h25_5 h25_6 h25_7 hs hf
    refine hK24 _ _ ?_
    unfold esref39_SameValues.j3 at hf
    refine W.seqK fun K35 hK35 => ?_
    have Jk38 : ∀ (x37 : Bool) (ρ : Env) (w : World), ρ 0 = .slice a2 x1.length c3 → ρ 1 = .slice a5 x4.length c6 → ρ 5 = .int .i64 x18 → ρ 95 = .bool x37 → St ok (bz w0) w [vl (tSlice t_history_Value) x1 (.slice a2 x1.length c3), vl (tSlice t_history_Value) x4 (.slice a5 x4.length c6)] [] → esref39_SameValues.j2 x18 x37 = some os19 → K35 ρ w := by
      intro x37 ρ w h36_0 h36_1 h36_5 h36_95 hs hf
      refine hK35 _ _ ?_
      unfold esref39_SameValues.j2 at hf
      rcases iteE hf with ⟨hc39, hf⟩ | ⟨hc39, hf⟩
      {
      refine W.cond_true (bool_tr h36_95 hc39) ?_
      refine W.seqK fun K40 hK40 => ?_
      refine W.region ?_
      refine WL.assign (v := .bool false) rfl ?_
      refine WL.nil ?_
      refine hK40 _ _ ?_
      refine W.ret ?_
      have hr := Option.some.inj hf; subst hr
      have hr := hbbs19 _ rfl; subst hr
      have hf := hfs19
      have hr := Option.some.inj hf; subst hr
      exact ⟨_, resOk_one rfl rfl, (), rfl, (hs.mask []).pick []⟩ }
      {
      refine W.cond_false (bool_tr h36_95 hc39) ?_
      refine W.skip ?_
      refine hK23 _ _ ?_
      refine W.region ?_
      refine WL.move (v := .int .i64 x18) h36_5 ?_
      obtain ⟨x41, ex41, hf⟩ := letE hf
      refine WL.bin (v := .int .i64 x41) rfl rfl (ib_as ex41 (ib_add _ _ _)) ?_
      refine WL.assign (v := .int .i64 x41) rfl ?_
      refine WL.nil ?_
      exact ⟨_, (Option.some.inj hf).symm, h36_0, h36_1, rfl, (hs.mask []).pick [0, 1]⟩ }
    refine W.region ?_
    refine WL.fieldAddr (m := 0) h25_6 FA68_0 rfl ?_
    refine WL.loadF (z := x27.Object) F_history_Value_Object hs 0 rfl 2 rfl rfl TI9 (.inr rfl) rfl rfl (fun v42 hs => ?_)
    obtain rfl := hs.str 0 rfl
    refine WL.fieldAddr (m := 0) h25_7 FA68_0 rfl ?_
    refine WL.loadF (z := x31.Object) F_history_Value_Object hs 1 rfl 4 rfl rfl TI9 (.inr rfl) rfl rfl (fun v43 hs => ?_)
    obtain rfl := hs.str 0 rfl
    refine WL.binS (v := .bool (x27.Object != x31.Object)) rfl rfl (sb_neq _ _) ?_
    refine WL.move (v := .bool (x27.Object != x31.Object)) rfl ?_
    rcases iteE hf with ⟨hc44, hf⟩ | ⟨hc44, hf⟩
    {
    refine WL.pass ((wanted_of rfl rfl (bool_tr rfl hc44)).trans rfl) rfl ?_
    refine WL.pass ((wanted_of rfl rfl (bool_tr rfl hc44)).trans rfl) rfl ?_
    refine WL.pass ((wanted_of rfl rfl (bool_tr rfl hc44)).trans rfl) rfl ?_
    refine WL.pass ((wanted_of rfl rfl (bool_tr rfl hc44)).trans rfl) rfl ?_
    refine WL.pass ((wanted_of rfl rfl (bool_tr rfl hc44)).trans rfl) rfl ?_
    refine WL.pickT (v := .bool true) (bool_tr rfl hc44) rfl ?_
    refine WL.move (v := .bool true) rfl ?_
    refine WL.pass ((wanted_of rfl rfl rfl).trans rfl) rfl ?_
    refine WL.pass ((wanted_of rfl rfl rfl).trans rfl) rfl ?_
    refine WL.pass ((wanted_of rfl rfl rfl).trans rfl) rfl ?_
    refine WL.pass ((wanted_of rfl rfl rfl).trans rfl) rfl ?_
    refine WL.pass ((wanted_of rfl rfl rfl).trans rfl) rfl ?_
    refine WL.pickT (v := .bool true) rfl rfl ?_
    refine WL.move (v := .bool true) rfl ?_
    refine WL.pass ((wanted_of rfl rfl rfl).trans rfl) rfl ?_
    refine WL.pass ((wanted_of rfl rfl rfl).trans rfl) rfl ?_
    refine WL.pass ((wanted_of rfl rfl rfl).trans rfl) rfl ?_
    refine WL.pass ((wanted_of rfl rfl rfl).trans rfl) rfl ?_
    refine WL.pass ((wanted_of rfl rfl rfl).trans rfl) rfl ?_
    refine WL.pickT (v := .bool true) rfl rfl ?_
    refine WL.move (v := .bool true) rfl ?_
    refine WL.pass ((wanted_of rfl rfl rfl).trans rfl) rfl ?_
    refine WL.pass ((wanted_of rfl rfl rfl).trans rfl) rfl ?_
    refine WL.pass ((wanted_of rfl rfl rfl).trans rfl) rfl ?_
    refine WL.pass ((wanted_of rfl rfl rfl).trans rfl) rfl ?_
    refine WL.pass ((wanted_of rfl rfl rfl).trans rfl) rfl ?_
    refine WL.pickT (v := .bool true) rfl rfl ?_
    refine WL.move (v := .bool true) rfl ?_
    refine WL.pass ((wanted_of rfl rfl rfl).trans rfl) rfl ?_
    refine WL.pass ((wanted_of rfl rfl rfl).trans rfl) rfl ?_
    refine WL.pass ((wanted_of rfl rfl rfl).trans rfl) rfl ?_
    refine WL.pass ((wanted_of rfl rfl rfl).trans rfl) rfl ?_
    refine WL.pass ((wanted_of rfl rfl rfl).trans rfl) rfl ?_
    refine WL.pickT (v := .bool true) rfl rfl ?_
    refine WL.move (v := .bool true) rfl ?_
    refine WL.pass ((wanted_of rfl rfl rfl).trans rfl) rfl ?_
    refine WL.pass ((wanted_of rfl rfl rfl).trans rfl) rfl ?_
    refine WL.pass ((wanted_of rfl rfl rfl).trans rfl) rfl ?_
    refine WL.pass ((wanted_of rfl rfl rfl).trans rfl) rfl ?_
    refine WL.pass ((wanted_of rfl rfl rfl).trans rfl) rfl ?_
    refine WL.pickT (v := .bool true) rfl rfl ?_
    refine WL.move (v := .bool true) rfl ?_
    refine WL.pass ((wanted_of rfl rfl rfl).trans rfl) rfl ?_
    refine WL.pass ((wanted_of rfl rfl rfl).trans rfl) rfl ?_
    refine WL.pass ((wanted_of rfl rfl rfl).trans rfl) rfl ?_
    refine WL.pass ((wanted_of rfl rfl rfl).trans rfl) rfl ?_
    refine WL.pass ((wanted_of rfl rfl rfl).trans rfl) rfl ?_
    refine WL.pickT (v := .bool true) rfl rfl ?_
    refine WL.move (v := .bool true) rfl ?_
    refine WL.pass ((wanted_of rfl rfl rfl).trans rfl) rfl ?_
    refine WL.pass ((wanted_of rfl rfl rfl).trans rfl) rfl ?_
    refine WL.pass ((wanted_of rfl rfl rfl).trans rfl) rfl ?_
    refine WL.pass ((wanted_of rfl rfl rfl).trans rfl) rfl ?_
    refine WL.pass ((wanted_of rfl rfl rfl).trans rfl) rfl ?_
    refine WL.pickT (v := .bool true) rfl rfl ?_
    refine WL.move (v := .bool true) rfl ?_
    refine WL.pass ((wanted_of rfl rfl rfl).trans rfl) rfl ?_
    refine WL.pass ((wanted_of rfl rfl rfl).trans rfl) rfl ?_
    refine WL.pass ((wanted_of rfl rfl rfl).trans rfl) rfl ?_
    refine WL.pass ((wanted_of rfl rfl rfl).trans rfl) rfl ?_
    refine WL.pass ((wanted_of rfl rfl rfl).trans rfl) rfl ?_
    refine WL.pass ((wanted_of rfl rfl rfl).trans rfl) rfl ?_
    refine WL.pickT (v := .bool true) rfl rfl ?_
    refine WL.nil ?_
    exact Jk38 true _ _ h25_0 h25_1 h25_5 rfl ((hs.mask []).pick [2, 3]) hf }
    {
    refine WL.fieldAddr (m := 1) h25_6 FA68_1 rfl ?_ (hg := (wanted_of rfl rfl (bool_tr rfl hc44)).trans rfl)
    refine WL.loadF (z := x27.Field) F_history_Value_Field hs 0 rfl 4 rfl rfl TI9 (.inr rfl) rfl rfl (fun v45 hs => ?_) (hg := (wanted_of rfl rfl (bool_tr rfl hc44)).trans rfl)
    obtain rfl := hs.str 0 rfl
    refine WL.fieldAddr (m := 1) h25_7 FA68_1 rfl ?_ (hg := (wanted_of rfl rfl (bool_tr rfl hc44)).trans rfl)
    refine WL.loadF (z := x31.Field) F_history_Value_Field hs 1 rfl 6 rfl rfl TI9 (.inr rfl) rfl rfl (fun v46 hs => ?_) (hg := (wanted_of rfl rfl (bool_tr rfl hc44)).trans rfl)
    obtain rfl := hs.str 0 rfl
    refine WL.binS (v := .bool (x27.Field != x31.Field)) rfl rfl (sb_neq _ _) ?_ (hg := (wanted_of rfl rfl (bool_tr rfl hc44)).trans rfl)
    refine WL.pickF (v := .bool (x27.Field != x31.Field)) (bool_tr rfl hc44) rfl ?_
    refine WL.move (v := .bool (x27.Field != x31.Field)) rfl ?_
    rcases iteE hf with ⟨hc47, hf⟩ | ⟨hc47, hf⟩
    {
    refine WL.pass ((wanted_of rfl rfl (bool_tr rfl hc47)).trans rfl) rfl ?_
    refine WL.pass ((wanted_of rfl rfl (bool_tr rfl hc47)).trans rfl) rfl ?_
    refine WL.pass ((wanted_of rfl rfl (bool_tr rfl hc47)).trans rfl) rfl ?_
    refine WL.pass ((wanted_of rfl rfl (bool_tr rfl hc47)).trans rfl) rfl ?_
    refine WL.pass ((wanted_of rfl rfl (bool_tr rfl hc47)).trans rfl) rfl ?_
    refine WL.pickT (v := .bool true) (bool_tr rfl hc47) rfl ?_
    refine WL.move (v := .bool true) rfl ?_
    refine WL.pass ((wanted_of rfl rfl rfl).trans rfl) rfl ?_
    refine WL.pass ((wanted_of rfl rfl rfl).trans rfl) rfl ?_
    refine WL.pass ((wanted_of rfl rfl rfl).trans rfl) rfl ?_
    refine WL.pass ((wanted_of rfl rfl rfl).trans rfl) rfl ?_
    refine WL.pass ((wanted_of rfl rfl rfl).trans rfl) rfl ?_
    refine WL.pickT (v := .bool true) rfl rfl ?_
    refine WL.move (v := .bool true) rfl ?_
    refine WL.pass ((wanted_of rfl rfl rfl).trans rfl) rfl ?_
    refine WL.pass ((wanted_of rfl rfl rfl).trans rfl) rfl ?_
    refine WL.pass ((wanted_of rfl rfl rfl).trans rfl) rfl ?_
    refine WL.pass ((wanted_of rfl rfl rfl).trans rfl) rfl ?_
    refine WL.pass ((wanted_of rfl rfl rfl).trans rfl) rfl ?_
    refine WL.pickT (v := .bool true) rfl rfl ?_
    refine WL.move (v := .bool true) rfl ?_
    refine WL.pass ((wanted_of rfl rfl rfl).trans rfl) rfl ?_
    refine WL.pass ((wanted_of rfl rfl rfl).trans rfl) rfl ?_
    refine WL.pass ((wanted_of rfl rfl rfl).trans rfl) rfl ?_
    refine WL.pass ((wanted_of rfl rfl rfl).trans rfl) rfl ?_
    refine WL.pass ((wanted_of rfl rfl rfl).trans rfl) rfl ?_
    refine WL.pickT (v := .bool true) rfl rfl ?_
    refine WL.move (v := .bool true) rfl ?_
    refine WL.pass ((wanted_of rfl rfl rfl).trans rfl) rfl ?_
    refine WL.pass ((wanted_of rfl rfl rfl).trans rfl) rfl ?_
    refine WL.pass ((wanted_of rfl rfl rfl).trans rfl) rfl ?_
    refine WL.pass ((wanted_of rfl rfl rfl).trans rfl) rfl ?_
    refine WL.pass ((wanted_of rfl rfl rfl).trans rfl) rfl ?_
    refine WL.pickT (v := .bool true) rfl rfl ?_
    refine WL.move (v := .bool true) rfl ?_
    refine WL.pass ((wanted_of rfl rfl rfl).trans rfl) rfl ?_
    refine WL.pass ((wanted_of rfl rfl rfl).trans rfl) rfl ?_
    refine WL.pass ((wanted_of rfl rfl rfl).trans rfl) rfl ?_
    refine WL.pass ((wanted_of rfl rfl rfl).trans rfl) rfl ?_
    refine WL.pass ((wanted_of rfl rfl rfl).trans rfl) rfl ?_
    refine WL.pickT (v := .bool true) rfl rfl ?_
    refine WL.move (v := .bool true) rfl ?_
    refine WL.pass ((wanted_of rfl rfl rfl).trans rfl) rfl ?_
    refine WL.pass ((wanted_of rfl rfl rfl).trans rfl) rfl ?_
    refine WL.pass ((wanted_of rfl rfl rfl).trans rfl) rfl ?_
    refine WL.pass ((wanted_of rfl rfl rfl).trans rfl) rfl ?_
    refine WL.pass ((wanted_of rfl rfl rfl).trans rfl) rfl ?_
    refine WL.pickT (v := .bool true) rfl rfl ?_
    refine WL.move (v := .bool true) rfl ?_
    refine WL.pass ((wanted_of rfl rfl rfl).trans rfl) rfl ?_
    refine WL.pass ((wanted_of rfl rfl rfl).trans rfl) rfl ?_
    refine WL.pass ((wanted_of rfl rfl rfl).trans rfl) rfl ?_
    refine WL.pass ((wanted_of rfl rfl rfl).trans rfl) rfl ?_
    refine WL.pass ((wanted_of rfl rfl rfl).trans rfl) rfl ?_
    refine WL.pass ((wanted_of rfl rfl rfl).trans rfl) rfl ?_
    refine WL.pickT (v := .bool true) rfl rfl ?_
    refine WL.nil ?_
    exact Jk38 true _ _ h25_0 h25_1 h25_5 rfl ((hs.mask []).pick [4, 5]) hf }
    {
    refine WL.fieldAddr (m := 2) h25_6 FA68_2 rfl ?_ (hg := (wanted_of rfl rfl (bool_tr rfl hc47)).trans rfl)
    refine WL.loadF (z := x27.Set) F_history_Value_Set hs 0 rfl 6 rfl rfl TI4 (.inr rfl) rfl rfl (fun v48 hs => ?_) (hg := (wanted_of rfl rfl (bool_tr rfl hc47)).trans rfl)
    obtain rfl := hs.bool 0 rfl
    refine WL.fieldAddr (m := 2) h25_7 FA68_2 rfl ?_ (hg := (wanted_of rfl rfl (bool_tr rfl hc47)).trans rfl)
    refine WL.loadF (z := x31.Set) F_history_Value_Set hs 1 rfl 8 rfl rfl TI4 (.inr rfl) rfl rfl (fun v49 hs => ?_) (hg := (wanted_of rfl rfl (bool_tr rfl hc47)).trans rfl)
    obtain rfl := hs.bool 0 rfl
    refine WL.neB UN4 rfl rfl ?_ (hg := (wanted_of rfl rfl (bool_tr rfl hc47)).trans rfl)
    refine WL.pickF (v := .bool (x27.Set != x31.Set)) (bool_tr rfl hc47) rfl ?_
    refine WL.move (v := .bool (x27.Set != x31.Set)) rfl ?_
    rcases iteE hf with ⟨hc50, hf⟩ | ⟨hc50, hf⟩
    {
    refine WL.pass ((wanted_of rfl rfl (bool_tr rfl hc50)).trans rfl) rfl ?_
    refine WL.pass ((wanted_of rfl rfl (bool_tr rfl hc50)).trans rfl) rfl ?_
    refine WL.pass ((wanted_of rfl rfl (bool_tr rfl hc50)).trans rfl) rfl ?_
    refine WL.pass ((wanted_of rfl rfl (bool_tr rfl hc50)).trans rfl) rfl ?_
    refine WL.pass ((wanted_of rfl rfl (bool_tr rfl hc50)).trans rfl) rfl ?_
    refine WL.pickT (v := .bool true) (bool_tr rfl hc50) rfl ?_
    refine WL.move (v := .bool true) rfl ?_
    refine WL.pass ((wanted_of rfl rfl rfl).trans rfl) rfl ?_
    refine WL.pass ((wanted_of rfl rfl rfl).trans rfl) rfl ?_
    refine WL.pass ((wanted_of rfl rfl rfl).trans rfl) rfl ?_
    refine WL.pass ((wanted_of rfl rfl rfl).trans rfl) rfl ?_
    refine WL.pass ((wanted_of rfl rfl rfl).trans rfl) rfl ?_
    refine WL.pickT (v := .bool true) rfl rfl ?_
    refine WL.move (v := .bool true) rfl ?_
    refine WL.pass ((wanted_of rfl rfl rfl).trans rfl) rfl ?_
    refine WL.pass ((wanted_of rfl rfl rfl).trans rfl) rfl ?_
    refine WL.pass ((wanted_of rfl rfl rfl).trans rfl) rfl ?_
    refine WL.pass ((wanted_of rfl rfl rfl).trans rfl) rfl ?_
    refine WL.pass ((wanted_of rfl rfl rfl).trans rfl) rfl ?_
    refine WL.pickT (v := .bool true) rfl rfl ?_
    refine WL.move (v := .bool true) rfl ?_
    refine WL.pass ((wanted_of rfl rfl rfl).trans rfl) rfl ?_
    refine WL.pass ((wanted_of rfl rfl rfl).trans rfl) rfl ?_
    refine WL.pass ((wanted_of rfl rfl rfl).trans rfl) rfl ?_
    refine WL.pass ((wanted_of rfl rfl rfl).trans rfl) rfl ?_
    refine WL.pass ((wanted_of rfl rfl rfl).trans rfl) rfl ?_
    refine WL.pickT (v := .bool true) rfl rfl ?_
    refine WL.move (v := .bool true) rfl ?_
    refine WL.pass ((wanted_of rfl rfl rfl).trans rfl) rfl ?_
    refine WL.pass ((wanted_of rfl rfl rfl).trans rfl) rfl ?_
    refine WL.pass ((wanted_of rfl rfl rfl).trans rfl) rfl ?_
    refine WL.pass ((wanted_of rfl rfl rfl).trans rfl) rfl ?_
    refine WL.pass ((wanted_of rfl rfl rfl).trans rfl) rfl ?_
    refine WL.pickT (v := .bool true) rfl rfl ?_
    refine WL.move (v := .bool true) rfl ?_
    refine WL.pass ((wanted_of rfl rfl rfl).trans rfl) rfl ?_
    refine WL.pass ((wanted_of rfl rfl rfl).trans rfl) rfl ?_
    refine WL.pass ((wanted_of rfl rfl rfl).trans rfl) rfl ?_
    refine WL.pass ((wanted_of rfl rfl rfl).trans rfl) rfl ?_
    refine WL.pass ((wanted_of rfl rfl rfl).trans rfl) rfl ?_
    refine WL.pickT (v := .bool true) rfl rfl ?_
    refine WL.move (v := .bool true) rfl ?_
    refine WL.pass ((wanted_of rfl rfl rfl).trans rfl) rfl ?_
    refine WL.pass ((wanted_of rfl rfl rfl).trans rfl) rfl ?_
    refine WL.pass ((wanted_of rfl rfl rfl).trans rfl) rfl ?_
    refine WL.pass ((wanted_of rfl rfl rfl).trans rfl) rfl ?_
    refine WL.pass ((wanted_of rfl rfl rfl).trans rfl) rfl ?_
    refine WL.pass ((wanted_of rfl rfl rfl).trans rfl) rfl ?_
    refine WL.pickT (v := .bool true) rfl rfl ?_
    refine WL.nil ?_
    exact Jk38 true _ _ h25_0 h25_1 h25_5 rfl ((hs.mask []).pick [6, 7]) hf }
    {
    refine WL.fieldAddr (m := 3) h25_6 FA68_3 rfl ?_ (hg := (wanted_of rfl rfl (bool_tr rfl hc50)).trans rfl)
    refine WL.loadF (z := x27.N) F_history_Value_N hs 0 rfl 8 rfl rfl TI2 (.inr rfl) rfl rfl (fun v51 hs => ?_) (hg := (wanted_of rfl rfl (bool_tr rfl hc50)).trans rfl)
    obtain rfl := hs.int 0 rfl
    refine WL.fieldAddr (m := 3) h25_7 FA68_3 rfl ?_ (hg := (wanted_of rfl rfl (bool_tr rfl hc50)).trans rfl)
    refine WL.loadF (z := x31.N) F_history_Value_N hs 1 rfl 10 rfl rfl TI2 (.inr rfl) rfl rfl (fun v52 hs => ?_) (hg := (wanted_of rfl rfl (bool_tr rfl hc50)).trans rfl)
    obtain rfl := hs.int 0 rfl
    refine WL.bin (v := .bool (x27.N != x31.N)) rfl rfl (ib_neq _ _ _) ?_ (hg := (wanted_of rfl rfl (bool_tr rfl hc50)).trans rfl)
    refine WL.pickF (v := .bool (x27.N != x31.N)) (bool_tr rfl hc50) rfl ?_
    refine WL.move (v := .bool (x27.N != x31.N)) rfl ?_
    rcases iteE hf with ⟨hc53, hf⟩ | ⟨hc53, hf⟩
    {
    refine WL.pass ((wanted_of rfl rfl (bool_tr rfl hc53)).trans rfl) rfl ?_
    refine WL.pass ((wanted_of rfl rfl (bool_tr rfl hc53)).trans rfl) rfl ?_
    refine WL.pass ((wanted_of rfl rfl (bool_tr rfl hc53)).trans rfl) rfl ?_
    refine WL.pass ((wanted_of rfl rfl (bool_tr rfl hc53)).trans rfl) rfl ?_
    refine WL.pass ((wanted_of rfl rfl (bool_tr rfl hc53)).trans rfl) rfl ?_
    refine WL.pickT (v := .bool true) (bool_tr rfl hc53) rfl ?_
    refine WL.move (v := .bool true) rfl ?_
    refine WL.pass ((wanted_of rfl rfl rfl).trans rfl) rfl ?_
    refine WL.pass ((wanted_of rfl rfl rfl).trans rfl) rfl ?_
    refine WL.pass ((wanted_of rfl rfl rfl).trans rfl) rfl ?_
    refine WL.pass ((wanted_of rfl rfl rfl).trans rfl) rfl ?_
    refine WL.pass ((wanted_of rfl rfl rfl).trans rfl) rfl ?_
    refine WL.pickT (v := .bool true) rfl rfl ?_
    refine WL.move (v := .bool true) rfl ?_
    refine WL.pass ((wanted_of rfl rfl rfl).trans rfl) rfl ?_
    refine WL.pass ((wanted_of rfl rfl rfl).trans rfl) rfl ?_
    refine WL.pass ((wanted_of rfl rfl rfl).trans rfl) rfl ?_
    refine WL.pass ((wanted_of rfl rfl rfl).trans rfl) rfl ?_
    refine WL.pass ((wanted_of rfl rfl rfl).trans rfl) rfl ?_
    refine WL.pickT (v := .bool true) rfl rfl ?_
    refine WL.move (v := .bool true) rfl ?_
    refine WL.pass ((wanted_of rfl rfl rfl).trans rfl) rfl ?_
    refine WL.pass ((wanted_of rfl rfl rfl).trans rfl) rfl ?_
    refine WL.pass ((wanted_of rfl rfl rfl).trans rfl) rfl ?_
    refine WL.pass ((wanted_of rfl rfl rfl).trans rfl) rfl ?_
    refine WL.pass ((wanted_of rfl rfl rfl).trans rfl) rfl ?_
    refine WL.pickT (v := .bool true) rfl rfl ?_
    refine WL.move (v := .bool true) rfl ?_
    refine WL.pass ((wanted_of rfl rfl rfl).trans rfl) rfl ?_
    refine WL.pass ((wanted_of rfl rfl rfl).trans rfl) rfl ?_
    refine WL.pass ((wanted_of rfl rfl rfl).trans rfl) rfl ?_
    refine WL.pass ((wanted_of rfl rfl rfl).trans rfl) rfl ?_
    refine WL.pass ((wanted_of rfl rfl rfl).trans rfl) rfl ?_
    refine WL.pickT (v := .bool true) rfl rfl ?_
    refine WL.move (v := .bool true) rfl ?_
    refine WL.pass ((wanted_of rfl rfl rfl).trans rfl) rfl ?_
    refine WL.pass ((wanted_of rfl rfl rfl).trans rfl) rfl ?_
    refine WL.pass ((wanted_of rfl rfl rfl).trans rfl) rfl ?_
    refine WL.pass ((wanted_of rfl rfl rfl).trans rfl) rfl ?_
    refine WL.pass ((wanted_of rfl rfl rfl).trans rfl) rfl ?_
    refine WL.pass ((wanted_of rfl rfl rfl).trans rfl) rfl ?_
    refine WL.pickT (v := .bool true) rfl rfl ?_
    refine WL.nil ?_
    exact Jk38 true _ _ h25_0 h25_1 h25_5 rfl ((hs.mask []).pick [8, 9]) hf }
    {
    refine WL.fieldAddr (m := 4) h25_6 FA68_4 rfl ?_ (hg := (wanted_of rfl rfl (bool_tr rfl hc53)).trans rfl)
    refine WL.loadF (z := x27.S) F_history_Value_S hs 0 rfl 10 rfl rfl TI9 (.inr rfl) rfl rfl (fun v54 hs => ?_) (hg := (wanted_of rfl rfl (bool_tr rfl hc53)).trans rfl)
    obtain rfl := hs.str 0 rfl
    refine WL.fieldAddr (m := 4) h25_7 FA68_4 rfl ?_ (hg := (wanted_of rfl rfl (bool_tr rfl hc53)).trans rfl)
    refine WL.loadF (z := x31.S) F_history_Value_S hs 1 rfl 12 rfl rfl TI9 (.inr rfl) rfl rfl (fun v55 hs => ?_) (hg := (wanted_of rfl rfl (bool_tr rfl hc53)).trans rfl)
    obtain rfl := hs.str 0 rfl
    refine WL.binS (v := .bool (x27.S != x31.S)) rfl rfl (sb_neq _ _) ?_ (hg := (wanted_of rfl rfl (bool_tr rfl hc53)).trans rfl)
    refine WL.pickF (v := .bool (x27.S != x31.S)) (bool_tr rfl hc53) rfl ?_
    refine WL.move (v := .bool (x27.S != x31.S)) rfl ?_
    rcases iteE hf with ⟨hc56, hf⟩ | ⟨hc56, hf⟩
    {
    refine WL.pass ((wanted_of rfl rfl (bool_tr rfl hc56)).trans rfl) rfl ?_
    refine WL.pass ((wanted_of rfl rfl (bool_tr rfl hc56)).trans rfl) rfl ?_
    refine WL.pass ((wanted_of rfl rfl (bool_tr rfl hc56)).trans rfl) rfl ?_
    refine WL.pass ((wanted_of rfl rfl (bool_tr rfl hc56)).trans rfl) rfl ?_
    refine WL.pass ((wanted_of rfl rfl (bool_tr rfl hc56)).trans rfl) rfl ?_
    refine WL.pickT (v := .bool true) (bool_tr rfl hc56) rfl ?_
    refine WL.move (v := .bool true) rfl ?_
    refine WL.pass ((wanted_of rfl rfl rfl).trans rfl) rfl ?_
    refine WL.pass ((wanted_of rfl rfl rfl).trans rfl) rfl ?_
    refine WL.pass ((wanted_of rfl rfl rfl).trans rfl) rfl ?_
    refine WL.pass ((wanted_of rfl rfl rfl).trans rfl) rfl ?_
    refine WL.pass ((wanted_of rfl rfl rfl).trans rfl) rfl ?_
    refine WL.pickT (v := .bool true) rfl rfl ?_
    refine WL.move (v := .bool true) rfl ?_
    refine WL.pass ((wanted_of rfl rfl rfl).trans rfl) rfl ?_
    refine WL.pass ((wanted_of rfl rfl rfl).trans rfl) rfl ?_
    refine WL.pass ((wanted_of rfl rfl rfl).trans rfl) rfl ?_
    refine WL.pass ((wanted_of rfl rfl rfl).trans rfl) rfl ?_
    refine WL.pass ((wanted_of rfl rfl rfl).trans rfl) rfl ?_
    refine WL.pickT (v := .bool true) rfl rfl ?_
    refine WL.move (v := .bool true) rfl ?_
    refine WL.pass ((wanted_of rfl rfl rfl).trans rfl) rfl ?_
    refine WL.pass ((wanted_of rfl rfl rfl).trans rfl) rfl ?_
    refine WL.pass ((wanted_of rfl rfl rfl).trans rfl) rfl ?_
    refine WL.pass ((wanted_of rfl rfl rfl).trans rfl) rfl ?_
    refine WL.pass ((wanted_of rfl rfl rfl).trans rfl) rfl ?_
    refine WL.pickT (v := .bool true) rfl rfl ?_
    refine WL.move (v := .bool true) rfl ?_
    refine WL.pass ((wanted_of rfl rfl rfl).trans rfl) rfl ?_
    refine WL.pass ((wanted_of rfl rfl rfl).trans rfl) rfl ?_
    refine WL.pass ((wanted_of rfl rfl rfl).trans rfl) rfl ?_
    refine WL.pass ((wanted_of rfl rfl rfl).trans rfl) rfl ?_
    refine WL.pass ((wanted_of rfl rfl rfl).trans rfl) rfl ?_
    refine WL.pass ((wanted_of rfl rfl rfl).trans rfl) rfl ?_
    refine WL.pickT (v := .bool true) rfl rfl ?_
    refine WL.nil ?_
    exact Jk38 true _ _ h25_0 h25_1 h25_5 rfl ((hs.mask []).pick [10, 11]) hf }
    {
    refine WL.fieldAddr (m := 5) h25_6 FA68_5 rfl ?_ (hg := (wanted_of rfl rfl (bool_tr rfl hc56)).trans rfl)
    refine WL.loadF (z := x27.HasMax) F_history_Value_HasMax hs 0 rfl 12 rfl rfl TI4 (.inr rfl) rfl rfl (fun v57 hs => ?_) (hg := (wanted_of rfl rfl (bool_tr rfl hc56)).trans rfl)
    obtain rfl := hs.bool 0 rfl
    refine WL.fieldAddr (m := 5) h25_7 FA68_5 rfl ?_ (hg := (wanted_of rfl rfl (bool_tr rfl hc56)).trans rfl)
    refine WL.loadF (z := x31.HasMax) F_history_Value_HasMax hs 1 rfl 14 rfl rfl TI4 (.inr rfl) rfl rfl (fun v58 hs => ?_) (hg := (wanted_of rfl rfl (bool_tr rfl hc56)).trans rfl)
    obtain rfl := hs.bool 0 rfl
    refine WL.neB UN4 rfl rfl ?_ (hg := (wanted_of rfl rfl (bool_tr rfl hc56)).trans rfl)
    refine WL.pickF (v := .bool (x27.HasMax != x31.HasMax)) (bool_tr rfl hc56) rfl ?_
    refine WL.move (v := .bool (x27.HasMax != x31.HasMax)) rfl ?_
    rcases iteE hf with ⟨hc59, hf⟩ | ⟨hc59, hf⟩
    {
    refine WL.pass ((wanted_of rfl rfl (bool_tr rfl hc59)).trans rfl) rfl ?_
    refine WL.pass ((wanted_of rfl rfl (bool_tr rfl hc59)).trans rfl) rfl ?_
    refine WL.pass ((wanted_of rfl rfl (bool_tr rfl hc59)).trans rfl) rfl ?_
    refine WL.pass ((wanted_of rfl rfl (bool_tr rfl hc59)).trans rfl) rfl ?_
    refine WL.pass ((wanted_of rfl rfl (bool_tr rfl hc59)).trans rfl) rfl ?_
    refine WL.pickT (v := .bool true) (bool_tr rfl hc59) rfl ?_
    refine WL.move (v := .bool true) rfl ?_
    refine WL.pass ((wanted_of rfl rfl rfl).trans rfl) rfl ?_
    refine WL.pass ((wanted_of rfl rfl rfl).trans rfl) rfl ?_
    refine WL.pass ((wanted_of rfl rfl rfl).trans rfl) rfl ?_
    refine WL.pass ((wanted_of rfl rfl rfl).trans rfl) rfl ?_
    refine WL.pass ((wanted_of rfl rfl rfl).trans rfl) rfl ?_
    refine WL.pickT (v := .bool true) rfl rfl ?_
    refine WL.move (v := .bool true) rfl ?_
    refine WL.pass ((wanted_of rfl rfl rfl).trans rfl) rfl ?_
    refine WL.pass ((wanted_of rfl rfl rfl).trans rfl) rfl ?_
    refine WL.pass ((wanted_of rfl rfl rfl).trans rfl) rfl ?_
    refine WL.pass ((wanted_of rfl rfl rfl).trans rfl) rfl ?_
    refine WL.pass ((wanted_of rfl rfl rfl).trans rfl) rfl ?_
    refine WL.pickT (v := .bool true) rfl rfl ?_
    refine WL.move (v := .bool true) rfl ?_
    refine WL.pass ((wanted_of rfl rfl rfl).trans rfl) rfl ?_
    refine WL.pass ((wanted_of rfl rfl rfl).trans rfl) rfl ?_
    refine WL.pass ((wanted_of rfl rfl rfl).trans rfl) rfl ?_
    refine WL.pass ((wanted_of rfl rfl rfl).trans rfl) rfl ?_
    refine WL.pass ((wanted_of rfl rfl rfl).trans rfl) rfl ?_
    refine WL.pass ((wanted_of rfl rfl rfl).trans rfl) rfl ?_
    refine WL.pickT (v := .bool true) rfl rfl ?_
    refine WL.nil ?_
    exact Jk38 true _ _ h25_0 h25_1 h25_5 rfl ((hs.mask []).pick [12, 13]) hf }
    {
    refine WL.fieldAddr (m := 6) h25_6 FA68_6 rfl ?_ (hg := (wanted_of rfl rfl (bool_tr rfl hc59)).trans rfl)
    refine WL.loadF (z := x27.Max) F_history_Value_Max hs 0 rfl 14 rfl rfl TI2 (.inr rfl) rfl rfl (fun v60 hs => ?_) (hg := (wanted_of rfl rfl (bool_tr rfl hc59)).trans rfl)
    obtain rfl := hs.int 0 rfl
    refine WL.fieldAddr (m := 6) h25_7 FA68_6 rfl ?_ (hg := (wanted_of rfl rfl (bool_tr rfl hc59)).trans rfl)
    refine WL.loadF (z := x31.Max) F_history_Value_Max hs 1 rfl 16 rfl rfl TI2 (.inr rfl) rfl rfl (fun v61 hs => ?_) (hg := (wanted_of rfl rfl (bool_tr rfl hc59)).trans rfl)
    obtain rfl := hs.int 0 rfl
    refine WL.bin (v := .bool (x27.Max != x31.Max)) rfl rfl (ib_neq _ _ _) ?_ (hg := (wanted_of rfl rfl (bool_tr rfl hc59)).trans rfl)
    refine WL.pickF (v := .bool (x27.Max != x31.Max)) (bool_tr rfl hc59) rfl ?_
    refine WL.move (v := .bool (x27.Max != x31.Max)) rfl ?_
    rcases iteE hf with ⟨hc62, hf⟩ | ⟨hc62, hf⟩
    {
    refine WL.pass ((wanted_of rfl rfl (bool_tr rfl hc62)).trans rfl) rfl ?_
    refine WL.pass ((wanted_of rfl rfl (bool_tr rfl hc62)).trans rfl) rfl ?_
    refine WL.pass ((wanted_of rfl rfl (bool_tr rfl hc62)).trans rfl) rfl ?_
    refine WL.pass ((wanted_of rfl rfl (bool_tr rfl hc62)).trans rfl) rfl ?_
    refine WL.pass ((wanted_of rfl rfl (bool_tr rfl hc62)).trans rfl) rfl ?_
    refine WL.pickT (v := .bool true) (bool_tr rfl hc62) rfl ?_
    refine WL.move (v := .bool true) rfl ?_
    refine WL.pass ((wanted_of rfl rfl rfl).trans rfl) rfl ?_
    refine WL.pass ((wanted_of rfl rfl rfl).trans rfl) rfl ?_
    refine WL.pass ((wanted_of rfl rfl rfl).trans rfl) rfl ?_
    refine WL.pass ((wanted_of rfl rfl rfl).trans rfl) rfl ?_
    refine WL.pass ((wanted_of rfl rfl rfl).trans rfl) rfl ?_
    refine WL.pickT (v := .bool true) rfl rfl ?_
    refine WL.move (v := .bool true) rfl ?_
    refine WL.pass ((wanted_of rfl rfl rfl).trans rfl) rfl ?_
    refine WL.pass ((wanted_of rfl rfl rfl).trans rfl) rfl ?_
    refine WL.pass ((wanted_of rfl rfl rfl).trans rfl) rfl ?_
    refine WL.pass ((wanted_of rfl rfl rfl).trans rfl) rfl ?_
    refine WL.pass ((wanted_of rfl rfl rfl).trans rfl) rfl ?_
    refine WL.pass ((wanted_of rfl rfl rfl).trans rfl) rfl ?_
    refine WL.pickT (v := .bool true) rfl rfl ?_
    refine WL.nil ?_
    exact Jk38 true _ _ h25_0 h25_1 h25_5 rfl ((hs.mask []).pick [14, 15]) hf }
    {
    refine WL.fieldAddr (m := 7) h25_6 FA68_7 rfl ?_ (hg := (wanted_of rfl rfl (bool_tr rfl hc62)).trans rfl)
    refine WL.loadF (z := x27.Sum) F_history_Value_Sum hs 0 rfl 16 rfl rfl TI2 (.inr rfl) rfl rfl (fun v63 hs => ?_) (hg := (wanted_of rfl rfl (bool_tr rfl hc62)).trans rfl)
    obtain rfl := hs.int 0 rfl
    refine WL.fieldAddr (m := 7) h25_7 FA68_7 rfl ?_ (hg := (wanted_of rfl rfl (bool_tr rfl hc62)).trans rfl)
    refine WL.loadF (z := x31.Sum) F_history_Value_Sum hs 1 rfl 18 rfl rfl TI2 (.inr rfl) rfl rfl (fun v64 hs => ?_) (hg := (wanted_of rfl rfl (bool_tr rfl hc62)).trans rfl)
    obtain rfl := hs.int 0 rfl
    refine WL.bin (v := .bool (x27.Sum != x31.Sum)) rfl rfl (ib_neq _ _ _) ?_ (hg := (wanted_of rfl rfl (bool_tr rfl hc62)).trans rfl)
    refine WL.pickF (v := .bool (x27.Sum != x31.Sum)) (bool_tr rfl hc62) rfl ?_
    refine WL.move (v := .bool (x27.Sum != x31.Sum)) rfl ?_
    rcases iteE hf with ⟨hc65, hf⟩ | ⟨hc65, hf⟩
    {
    refine WL.pass ((wanted_of rfl rfl (bool_tr rfl hc65)).trans rfl) rfl ?_
    refine WL.pass ((wanted_of rfl rfl (bool_tr rfl hc65)).trans rfl) rfl ?_
    refine WL.pass ((wanted_of rfl rfl (bool_tr rfl hc65)).trans rfl) rfl ?_
    refine WL.pass ((wanted_of rfl rfl (bool_tr rfl hc65)).trans rfl) rfl ?_
    refine WL.pass ((wanted_of rfl rfl (bool_tr rfl hc65)).trans rfl) rfl ?_
    refine WL.pickT (v := .bool true) (bool_tr rfl hc65) rfl ?_
    refine WL.move (v := .bool true) rfl ?_
    refine WL.pass ((wanted_of rfl rfl rfl).trans rfl) rfl ?_
    refine WL.pass ((wanted_of rfl rfl rfl).trans rfl) rfl ?_
    refine WL.pass ((wanted_of rfl rfl rfl).trans rfl) rfl ?_
    refine WL.pass ((wanted_of rfl rfl rfl).trans rfl) rfl ?_
    refine WL.pass ((wanted_of rfl rfl rfl).trans rfl) rfl ?_
    refine WL.pass ((wanted_of rfl rfl rfl).trans rfl) rfl ?_
    refine WL.pickT (v := .bool true) rfl rfl ?_
    refine WL.nil ?_
    exact Jk38 true _ _ h25_0 h25_1 h25_5 rfl ((hs.mask []).pick [16, 17]) hf }
    {
    refine WL.fieldAddr (m := 9) h25_6 FA68_9 rfl ?_ (hg := (wanted_of rfl rfl (bool_tr rfl hc65)).trans rfl)
    refine WL.loadF (z := x27.Flag) F_history_Value_Flag hs 0 rfl 18 rfl rfl TI4 (.inr rfl) rfl rfl (fun v66 hs => ?_) (hg := (wanted_of rfl rfl (bool_tr rfl hc65)).trans rfl)
    obtain rfl := hs.bool 0 rfl
    refine WL.fieldAddr (m := 9) h25_7 FA68_9 rfl ?_ (hg := (wanted_of rfl rfl (bool_tr rfl hc65)).trans rfl)
    refine WL.loadF (z := x31.Flag) F_history_Value_Flag hs 1 rfl 20 rfl rfl TI4 (.inr rfl) rfl rfl (fun v67 hs => ?_) (hg := (wanted_of rfl rfl (bool_tr rfl hc65)).trans rfl)
    obtain rfl := hs.bool 0 rfl
    refine WL.neB UN4 rfl rfl ?_ (hg := (wanted_of rfl rfl (bool_tr rfl hc65)).trans rfl)
    refine WL.pickF (v := .bool (x27.Flag != x31.Flag)) (bool_tr rfl hc65) rfl ?_
    refine WL.move (v := .bool (x27.Flag != x31.Flag)) rfl ?_
    rcases iteE hf with ⟨hc68, hf⟩ | ⟨hc68, hf⟩
    {
    refine WL.pass ((wanted_of rfl rfl (bool_tr rfl hc68)).trans rfl) rfl ?_
    refine WL.pass ((wanted_of rfl rfl (bool_tr rfl hc68)).trans rfl) rfl ?_
    refine WL.pass ((wanted_of rfl rfl (bool_tr rfl hc68)).trans rfl) rfl ?_
    refine WL.pass ((wanted_of rfl rfl (bool_tr rfl hc68)).trans rfl) rfl ?_
    refine WL.pass ((wanted_of rfl rfl (bool_tr rfl hc68)).trans rfl) rfl ?_
    refine WL.pass ((wanted_of rfl rfl (bool_tr rfl hc68)).trans rfl) rfl ?_
    refine WL.pickT (v := .bool true) (bool_tr rfl hc68) rfl ?_
    refine WL.nil ?_
    exact Jk38 true _ _ h25_0 h25_1 h25_5 rfl ((hs.mask []).pick [18, 19]) hf }
    {
    refine WL.fieldAddr (m := 8) h25_6 FA68_8 rfl ?_ (hg := (wanted_of rfl rfl (bool_tr rfl hc68)).trans rfl)
    refine WL.loadF (z := x27.Elems) F_history_Value_Elems hs 0 rfl 20 rfl rfl TI59 (.inr rfl) rfl rfl (fun v69 hs => ?_) (hg := (wanted_of rfl rfl (bool_tr rfl hc68)).trans rfl)
    obtain ⟨a70, c71, rfl⟩ := hs.slice 0 rfl
    refine WL.fieldAddr (m := 8) h25_7 FA68_8 rfl ?_ (hg := (wanted_of rfl rfl (bool_tr rfl hc68)).trans rfl)
    refine WL.loadF (z := x31.Elems) F_history_Value_Elems hs 1 rfl 22 rfl rfl TI59 (.inr rfl) rfl rfl (fun v72 hs => ?_) (hg := (wanted_of rfl rfl (bool_tr rfl hc68)).trans rfl)
    obtain ⟨a73, c74, rfl⟩ := hs.slice 0 rfl
    obtain ⟨x75, hxx75, hf⟩ := bindE hf
    refine WL.call (vs := [.slice a70 (x27.Elems).length c71, .slice a73 (x31.Elems).length c74]) hs FN34 ⟨rfl, ⟨rfl, trivial⟩⟩ (fun ok hA => esref32_EqualStrings.calls (x1 := x27.Elems) (x4 := x31.Elems) hxx75 (hA.get 1 rfl) (hA.get 0 rfl)) ?_ (hg := (wanted_of rfl rfl (bool_tr rfl hc68)).trans rfl)
    rintro _ w hs
    refine WL.not rfl ?_ (hg := (wanted_of rfl rfl (bool_tr rfl hc68)).trans rfl)
    refine WL.pickF (v := .bool (!x75)) (bool_tr rfl hc68) rfl ?_
    refine WL.nil ?_
    exact Jk38 (!x75) _ _ h25_0 h25_1 h25_5 rfl ((hs.mask []).pick [20, 21]) hf } } } } } } } } }
  obtain ⟨x76, hxx76, hf⟩ := bindE hf
  obtain ⟨x81, hxx81, hf⟩ := bindE hf
  refine W.anyU (by kernel_rfl) 11 1 [true, true, true, true, true, true, true, true, true, true, true, false] rfl rfl (poAt [pv (.slice a2 x1.length c3), pv (.int .i64 x18), pq (fun y : Addr => .pointer (some y)) (fun v => [pl t_history_Value x76 (adOf v)]) (fun v => []), pq (fun y : List Value => .agg y.toArray) (fun v => [vl t_history_Value x76 v]) (fun v => []), pv (.slice a5 x4.length c6), pv (.int .i64 x18), pq (fun y : Addr => .pointer (some y)) (fun v => [pl t_history_Value x81 (adOf v)]) (fun v => []), pq (fun y : List Value => .agg y.toArray) (fun v => [vl t_history_Value x81 v]) (fun v => []), pq (fun y : Nat => .pointer (some ⟨y, 0, none⟩)) (fun v => []) (fun v => [blk (gOf v) 68 ([bstr [], bstr [], .bool false, .int .i64 0, bstr [], .bool false, .int .i64 0, .int .i64 0, .slice none 0 0, .bool false])]), pq (fun y : Nat => .pointer (some ⟨y, 0, none⟩)) (fun v => []) (fun v => [blk (gOf v) 68 ([bstr [], bstr [], .bool false, .int .i64 0, bstr [], .bool false, .int .i64 0, .int .i64 0, .slice none 0 0, .bool false])]), pT]) (tkAt [[], [], [], [], [], [], [], [], [], [], [8]]) (tlAt [fun _ => [], fun _ => [], fun _ => [], fun _ => [], fun _ => [], fun _ => [], fun _ => [], fun _ => [], fun v => [tbx t_history_Value x76 (gOf v) 68], fun _ => [], fun _ => []]) (Λ := []) hs (by kernel_rfl) (by kernel_rfl) (by kernel_rfl) (by kernel_rfl) ⟨⟨⟨⟨⟨⟨⟨⟨⟨⟨⟨trivial, ?_⟩, ?_⟩, ?_⟩, ?_⟩, ?_⟩, ?_⟩, ?_⟩, ?_⟩, ?_⟩, ?_⟩, ?_⟩ ?_
  {
  intro ρ w Γx Λx hs hu hu2 hp
  refine WL.move (v := .slice a2 x1.length c3) ((hu 0 rfl).trans h17_0) ?_
  exact WL.nil ⟨rfl, _, rfl, rfl, hs.cutG 0 0⟩ }
  {
  intro ρ w Γx Λx hs hu hu2 hp
  refine WL.move (v := .int .i64 x18) ((hu 5 rfl).trans h17_5) ?_
  exact WL.nil ⟨rfl, _, rfl, rfl, hs.cutG 0 0⟩ }
  {
  intro ρ w Γx Λx hs hu hu2 hp
  have e88 : ρ 19 = .slice a2 x1.length c3 := (hp 0 rfl).1
  have e89 : ρ 20 = .int .i64 x18 := (hp 1 rfl).1
  refine WL.indexAddr hs (Γx.length + 0) (getApp rfl) UN31 TI68 e88 e89 hxx76 (fun ad77 hs => ?_)
  have hs := hs.add (it := pl t_history_Value x76 ad77) fun ok hA => hA.get 0 rfl
  exact WL.nil ⟨rfl, _, rfl, ⟨ad77, rfl⟩, hs.cutG 1 1⟩ }
  {
  intro ρ w Γx Λx hs hu hu2 hp
  obtain ⟨⟨ad90, e91r⟩, hm92⟩ := hp 2 rfl
  have e91 : ρ 21 = .pointer (some ad90) := e91r
  rw [e91r] at hm92
  have hs := hs.memo1 (it := pl t_history_Value x76 ad90) (List.mem_append.2 (.inl (hm92 _ (List.mem_of_getElem? (i := 0) rfl))))
  refine WL.loadP hs 0 rfl TI68 (.inl rfl) e91 (fun v78 hs => ?_)
  obtain ⟨cs79, hl80, rfl⟩ := hs.aggv (n := 10) 0 rfl rfl rfl
  have hs := hs.add (it := vl t_history_Value x76 (.agg cs79.toArray)) fun ok hA => hA.get 0 rfl
  exact WL.nil ⟨rfl, _, rfl, ⟨cs79, rfl⟩, hs.cutG 1 2⟩ }
  {
  intro ρ w Γx Λx hs hu hu2 hp
  refine WL.move (v := .slice a5 x4.length c6) ((hu 1 rfl).trans h17_1) ?_
  exact WL.nil ⟨rfl, _, rfl, rfl, hs.cutG 0 0⟩ }
  {
  intro ρ w Γx Λx hs hu hu2 hp
  refine WL.move (v := .int .i64 x18) ((hu 5 rfl).trans h17_5) ?_
  exact WL.nil ⟨rfl, _, rfl, rfl, hs.cutG 0 0⟩ }
  {
  intro ρ w Γx Λx hs hu hu2 hp
  have e93 : ρ 23 = .slice a5 x4.length c6 := (hp 4 rfl).1
  have e94 : ρ 24 = .int .i64 x18 := (hp 5 rfl).1
  refine WL.indexAddr hs (Γx.length + 1) (getApp rfl) UN31 TI68 e93 e94 hxx81 (fun ad82 hs => ?_)
  have hs := hs.add (it := pl t_history_Value x81 ad82) fun ok hA => hA.get 0 rfl
  exact WL.nil ⟨rfl, _, rfl, ⟨ad82, rfl⟩, hs.cutG 1 1⟩ }
  {
  intro ρ w Γx Λx hs hu hu2 hp
  obtain ⟨⟨ad95, e96r⟩, hm97⟩ := hp 6 rfl
  have e96 : ρ 25 = .pointer (some ad95) := e96r
  rw [e96r] at hm97
  have hs := hs.memo1 (it := pl t_history_Value x81 ad95) (List.mem_append.2 (.inl (hm97 _ (List.mem_of_getElem? (i := 0) rfl))))
  refine WL.loadP hs 0 rfl TI68 (.inl rfl) e96 (fun v83 hs => ?_)
  obtain ⟨cs84, hl85, rfl⟩ := hs.aggv (n := 10) 0 rfl rfl rfl
  have hs := hs.add (it := vl t_history_Value x81 (.agg cs84.toArray)) fun ok hA => hA.get 0 rfl
  exact WL.nil ⟨rfl, _, rfl, ⟨cs84, rfl⟩, hs.cutG 1 2⟩ }
  {
  intro ρ w Γx Λx hs hu hu2 hp
  refine WL.alloc hs ZV68 (fun g86 w hs => ?_)
  exact WL.nil ⟨rfl, _, rfl, ⟨g86, rfl⟩, hs.cutG 0 0⟩ }
  {
  intro ρ w Γx Λx hs hu hu2 hp
  refine WL.alloc hs ZV68 (fun g87 w hs => ?_)
  exact WL.nil ⟨rfl, _, rfl, ⟨g87, rfl⟩, hs.cutG 0 0⟩ }
  {
  intro ρ w Γx Λx hs hu hu2 hp
  have hs : St ok (bz w0) w (Γx ++ [vl (tSlice t_history_Value) x1 (.slice a2 x1.length c3), vl (tSlice t_history_Value) x4 (.slice a5 x4.length c6)]) (Λx ++ ([blk (gOf ((ρ 6))) 68 ([bstr [], bstr [], .bool false, .int .i64 0, bstr [], .bool false, .int .i64 0, .int .i64 0, .slice none 0 0, .bool false])] ++ [])) := hs
  have e98 : ρ 6 = .pointer (some ⟨gOf (ρ 6), 0, none⟩) := by obtain ⟨⟨y, hy⟩, _⟩ := hp 8 rfl; have hy : ρ 6 = .pointer (some ⟨y, 0, none⟩) := hy; rw [hy]; rfl
  obtain ⟨⟨cs99, e101r⟩, hm102⟩ := hp 3 rfl
  have e101 : ρ 22 = .agg cs99.toArray := e101r
  rw [e101r] at hm102
  have hs := hs.memo1 (it := vl t_history_Value x76 (.agg cs99.toArray)) (List.mem_append.2 (.inl (hm102 _ (List.mem_of_getElem? (i := 0) rfl))))
  have hl100 := hs.agglen (n := 10) 0 rfl rfl rfl
  refine WL.storeAll (vs := cs99) hs (Λx.length + 0) (getApp rfl) TI68 e98 e101 rfl hl100 (hs.ones 0 rfl rfl) rfl (fun w hs => ?_)
  have hs := hs.backP
  have hs := hs.toT (A := t_history_Value) 0 rfl fun ok hA => (R_agg (hA.get 0 rfl) rfl)
  exact WL.nil ⟨rfl, _, rfl, trivial, hs.cutG 0 1⟩ }
  {
  intro ρ w hs hu103 hp
  obtain ⟨⟨⟨⟨⟨⟨⟨⟨⟨⟨⟨_, hp0_⟩, hp1_⟩, hp2_⟩, hp3_⟩, hp4_⟩, hp5_⟩, hp6_⟩, hp7_⟩, hp8_⟩, hp9_⟩, hp10_⟩ := hp
  have hs : St ok (bz w0) w [vl t_history_Value x81 (ρ 26), pl t_history_Value x81 (adOf (ρ 25)), vl t_history_Value x76 (ρ 22), pl t_history_Value x76 (adOf (ρ 21)), vl (tSlice t_history_Value) x1 (.slice a2 x1.length c3), vl (tSlice t_history_Value) x4 (.slice a5 x4.length c6)] [blk (gOf ((ρ 7))) 68 ([bstr [], bstr [], .bool false, .int .i64 0, bstr [], .bool false, .int .i64 0, .int .i64 0, .slice none 0 0, .bool false]), tbx t_history_Value x76 (gOf (ρ 6)) 68] := hs
  obtain ⟨g104, e105⟩ := hp9_
  have e105 : ρ 7 = .pointer (some ⟨g104, 0, none⟩) := e105
  try rw [e105] at hs
  obtain ⟨g106, e107⟩ := hp8_
  have e107 : ρ 6 = .pointer (some ⟨g106, 0, none⟩) := e107
  try rw [e107] at hs
  obtain ⟨cs108, e110⟩ := hp7_
  have e110 : ρ 26 = .agg cs108.toArray := e110
  try rw [e110] at hs
  obtain ⟨ad111, e112⟩ := hp6_
  have e112 : ρ 25 = .pointer (some ad111) := e112
  try rw [e112] at hs
  have e113 : ρ 24 = .int .i64 x18 := hp5_
  have e114 : ρ 23 = .slice a5 x4.length c6 := hp4_
  obtain ⟨cs115, e117⟩ := hp3_
  have e117 : ρ 22 = .agg cs115.toArray := e117
  try rw [e117] at hs
  obtain ⟨ad118, e119⟩ := hp2_
  have e119 : ρ 21 = .pointer (some ad118) := e119
  try rw [e119] at hs
  have e120 : ρ 20 = .int .i64 x18 := hp1_
  have e121 : ρ 19 = .slice a2 x1.length c3 := hp0_
  have hl116 := hs.agglen (n := 10) 2 rfl rfl rfl
  have hl109 := hs.agglen (n := 10) 0 rfl rfl rfl
  obtain ⟨cs122, hl123, hs⟩ := hs.ofT (n := 10) 1 rfl rfl rfl
  refine WA.step [11] (by kernel_rfl) (by simp) ⟨?_, trivial⟩
  refine WL.storeAll (vs := cs108) hs 0 rfl TI68 e105 e110 rfl hl109 (hs.ones 1 rfl rfl) rfl (fun w hs => ?_)
  refine WL.nil ⟨rfl, _, rfl, ?_⟩
  refine WA.done (by kernel_rfl) ?_
  have hs := hs.front 0 rfl
  have hs := hs.front 1 rfl
  exact Jk34 x76 x81 g106 cs122 g104 cs108 _ _ hl123 hl109 ((hu103 0 rfl).trans h17_0) ((hu103 1 rfl).trans h17_1) ((hu103 5 rfl).trans h17_5) e107 e105 ((hs.mask [true, true]).pick [5, 6, 0, 1]) hf } }
  {
  refine W.cond_false (bool_tr rfl hc22) ?_
  refine W.exit ?_
  have hr := Option.some.inj hf; subst hr
  have hr := hbbs19 _ rfl; subst hr
  have hf := hfs19
  exact Jk14  _ _  ((hs.mask []).pick []) hf } }
/-! elasticstore/elasticstoreref39.EqualOperation: function 21 -/
theorem esref39_EqualOperation.calls {ok : Nat → Prop} {w0 : World} {x1 : history_Operation} {x5 : history_Operation} {v2 : Value} {v6 : Value} {r : Bool} (hf : esref39_EqualOperation x1 x5 = some r) (i0 : (vl t_history_Operation x1 v2).holds ok w0) (i1 : (vl t_history_Operation x5 v6).holds ok w0) :
    Calls Try.prog 21 #[v2, v6] w0 fun e w' => ∃ v, e = .returned v ∧ ∃ y : Unit, v = .bool r ∧ St ok (bz w0) w' [] [] := by
  unfold esref39_EqualOperation at hf
  refine calls_of_W (fn := Try.f21) (N := 67) Try.func21 rfl Try.ntmps21 rfl ?_
  have hs : St ok (bz w0) w0 [vl t_history_Operation x1 v2, vl t_history_Operation x5 v6] [] := St.init (All.cons i0 (All.cons i1 All.nil))
  clear i0 i1
  obtain ⟨cs3, hl4, rfl⟩ := hs.aggv (n := 6) 0 rfl rfl rfl
  obtain ⟨cs7, hl8, rfl⟩ := hs.aggv (n := 6) 1 rfl rfl rfl
  refine W.seqK fun K9 hK9 => ?_
  refine W.region ?_
  refine WL.box (vs := cs3) hs rfl rfl (fun g10 w hs => ?_)
  refine WL.box (vs := cs7) hs rfl rfl (fun g11 w hs => ?_)
  refine WL.assign (v := .bool false) rfl ?_
  refine WL.nil ?_
  refine hK9 _ _ ?_
  refine W.seqK fun K12 hK12 => ?_
  refine W.seqK fun K13 hK13 => ?_
  have Jk16 : ∀ (x15 : Bool) (ρ : Env) (w : World), ρ 2 = .pointer (some ⟨g10, 0, none⟩) → ρ 3 = .pointer (some ⟨g11, 0, none⟩) → ρ 48 = .bool x15 → St ok (bz w0) w [vl t_history_Operation x5 (.agg cs7.toArray), vl t_history_Operation x1 (.agg cs3.toArray)] [blk g11 35 cs7, blk g10 35 cs3] → esref39_EqualOperation.j2 x1 x5 x15 = some r → K13 ρ w := by
    intro x15 ρ w h14_2 h14_3 h14_48 hs hf
    refine hK13 _ _ ?_
    unfold esref39_EqualOperation.j2 at hf
    rcases iteE hf with ⟨hc17, hf⟩ | ⟨hc17, hf⟩
    {
    refine W.cond_true (bool_tr h14_48 hc17) ?_
    refine W.seqK fun K18 hK18 => ?_
    refine W.region ?_
    refine WL.assign (v := .bool false) rfl ?_
    refine WL.nil ?_
    refine hK18 _ _ ?_
    refine W.ret ?_
    have hr := Option.some.inj hf; subst hr
    exact ⟨_, resOk_one rfl rfl, (), rfl, (hs.mask []).pick []⟩ }
    {
    refine W.cond_false (bool_tr h14_48 hc17) ?_
    refine W.skip ?_
    refine hK12 _ _ ?_
    refine W.seqK fun K19 hK19 => ?_
    have Jk21 : ∀  (ρ : Env) (w : World), St ok (bz w0) w [] [] → esref39_EqualOperation.j1 = some r → K19 ρ w := by
      intro  ρ w  hs hf
      refine hK19 _ _ ?_
      unfold esref39_EqualOperation.j1 at hf
      refine W.seqK fun K22 hK22 => ?_
      refine W.region ?_
      refine WL.assign (v := .bool true) rfl ?_
      refine WL.nil ?_
      refine hK22 _ _ ?_
      refine W.ret ?_
      have hr := Option.some.inj hf; subst hr
      exact ⟨_, resOk_one rfl rfl, (), rfl, (hs.mask []).pick []⟩
    refine W.seqK fun K23 hK23 => ?_
    refine W.region ?_
    refine WL.assign (v := .int .i64 0) rfl ?_
    refine WL.nil ?_
    refine hK23 _ _ ?_
    refine W.block ?_
    obtain ⟨bs26, hbs26, hfs26⟩ := bindE hf
    refine W.loop hbs26 (fun s ρ w => match s with | x25 => ρ 2 = .pointer (some ⟨g10, 0, none⟩) ∧ ρ 3 = .pointer (some ⟨g11, 0, none⟩) ∧ ρ 5 = .int .i64 x25 ∧ St ok (bz w0) w [vl t_history_Operation x5 (.agg cs7.toArray), vl t_history_Operation x1 (.agg cs3.toArray)] [blk g11 35 cs7, blk g10 35 cs3]) ⟨h14_2, h14_3, rfl, (hs.mask [true, true]).pick [0, 1]⟩ ?_
    intro x25 ρ w os26 hI hf hbbs26
    obtain ⟨h24_2, h24_3, h24_5, hs⟩ := hI
    unfold esref39_EqualOperation.l1 at hf
    refine W.seqK fun K27 hK27 => ?_
    refine W.seqK fun K28 hK28 => ?_
    refine W.region ?_
    refine WL.move (v := .int .i64 x25) h24_5 ?_
    refine WL.fieldAddr (m := 2) h24_2 FA35_2 rfl ?_
    refine WL.loadF (z := x1.Effects) F_history_Operation_Effects hs 1 rfl 1 rfl rfl TI30 (.inr rfl) rfl rfl (fun v29 hs => ?_)
    obtain ⟨a30, c31, rfl⟩ := hs.slice 0 rfl
    refine WL.len (v := .slice a30 (x1.Effects).length c31) rfl (len_slice UN30) ?_
    refine WL.bin (v := .bool (decide (x25 < ((x1.Effects).length : Int)))) rfl rfl (ib_lss _ _ _) ?_
    refine WL.nil ?_
    refine hK28 _ _ ?_
    rcases iteE hf with ⟨hc32, hf⟩ | ⟨hc32, hf⟩
    {
    refine W.cond_true (bool_tr rfl hc32) ?_
    refine W.skip ?_
    refine hK27 _ _ ?_
    refine W.seqK fun K33 hK33 => ?_
    refine W.block ?_
    refine W.seqK fun K34 hK34 => ?_
    obtain ⟨x38, hxx38, hf⟩ := bindE hf
    obtain ⟨x46, hxx46, hf⟩ := bindE hf
    refine W.any (by kernel_rfl) 11 0 [true, true, true, true, true, true, true, true, true, true, true] rfl rfl (poAt [pv (.pointer (some ⟨g10, 2, none⟩)), pq (fun y : (Option Addr × Nat) => .slice y.1 (x1.Effects).length y.2) (fun v => [vl (tSlice t_api_Effect) x1.Effects v]) (fun v => []), pv (.int .i64 x25), pq (fun y : Addr => .pointer (some y)) (fun v => [pl t_api_Effect x38 (adOf v)]) (fun v => []), pq (fun y : List Value => .agg y.toArray) (fun v => [vl t_api_Effect x38 v]) (fun v => []), pv (.pointer (some ⟨g11, 2, none⟩)), pq (fun y : (Option Addr × Nat) => .slice y.1 (x5.Effects).length y.2) (fun v => [vl (tSlice t_api_Effect) x5.Effects v]) (fun v => []), pv (.int .i64 x25), pq (fun y : Addr => .pointer (some y)) (fun v => [pl t_api_Effect x46 (adOf v)]) (fun v => []), pq (fun y : List Value => .agg y.toArray) (fun v => [vl t_api_Effect x46 v]) (fun v => []), pv (.bool (!decide ((⟨x38.Kind, x38.Object, x38.Field, x38.N, x38.S⟩ : api_Effect) = (⟨x46.Kind, x46.Object, x46.Field, x46.N, x46.S⟩ : api_Effect))))]) (Λ := [blk g11 35 cs7, blk g10 35 cs3]) hs (by kernel_rfl) (by kernel_rfl) (by kernel_rfl) ⟨⟨⟨⟨⟨⟨⟨⟨⟨⟨⟨trivial, ?_⟩, ?_⟩, ?_⟩, ?_⟩, ?_⟩, ?_⟩, ?_⟩, ?_⟩, ?_⟩, ?_⟩, ?_⟩ ?_
    {
    intro ρ w Γx Λx hs hu hp
    refine WL.fieldAddr (m := 2) ((hu 2 rfl).trans h24_2) FA35_2 rfl ?_
    exact WL.nil ⟨rfl, _, rfl, rfl, hs.cutG 0 0⟩ }
    {
    intro ρ w Γx Λx hs hu hp
    have e51 : ρ 56 = .pointer (some ⟨g10, 2, none⟩) := (hp 0 rfl).1
    refine WL.loadF (z := x1.Effects) F_history_Operation_Effects hs (Λx.length + 1) (getApp rfl) (Γx.length + 2) (getApp rfl) rfl TI30 (.inr rfl) e51 rfl (fun v35 hs => ?_)
    obtain ⟨a36, c37, rfl⟩ := hs.slice 0 rfl
    have hs := hs.add (it := vl (tSlice t_api_Effect) x1.Effects (.slice a36 (x1.Effects).length c37)) fun ok hA => hA.get 0 rfl
    exact WL.nil ⟨rfl, _, rfl, ⟨(a36, c37), rfl⟩, hs.cutG 1 1⟩ }
    {
    intro ρ w Γx Λx hs hu hp
    refine WL.move (v := .int .i64 x25) ((hu 5 rfl).trans h24_5) ?_
    exact WL.nil ⟨rfl, _, rfl, rfl, hs.cutG 0 0⟩ }
    {
    intro ρ w Γx Λx hs hu hp
    obtain ⟨⟨⟨a52, c53⟩, e54r⟩, hm55⟩ := hp 1 rfl
    have e54 : ρ 57 = .slice a52 (x1.Effects).length c53 := e54r
    rw [e54r] at hm55
    have hs := hs.memo1 (it := vl (tSlice t_api_Effect) x1.Effects (.slice a52 (x1.Effects).length c53)) (List.mem_append.2 (.inl (hm55 _ (List.mem_of_getElem? (i := 0) rfl))))
    have e56 : ρ 58 = .int .i64 x25 := (hp 2 rfl).1
    refine WL.indexAddr hs 0 rfl UN30 TI72 e54 e56 hxx38 (fun ad39 hs => ?_)
    have hs := hs.add (it := pl t_api_Effect x38 ad39) fun ok hA => hA.get 0 rfl
    exact WL.nil ⟨rfl, _, rfl, ⟨ad39, rfl⟩, hs.cutG 1 2⟩ }
    {
    intro ρ w Γx Λx hs hu hp
    obtain ⟨⟨ad57, e58r⟩, hm59⟩ := hp 3 rfl
    have e58 : ρ 59 = .pointer (some ad57) := e58r
    rw [e58r] at hm59
    have hs := hs.memo1 (it := pl t_api_Effect x38 ad57) (List.mem_append.2 (.inl (hm59 _ (List.mem_of_getElem? (i := 0) rfl))))
    refine WL.loadP hs 0 rfl TI72 (.inl rfl) e58 (fun v40 hs => ?_)
    obtain ⟨cs41, hl42, rfl⟩ := hs.aggv (n := 5) 0 rfl rfl rfl
    have hs := hs.add (it := vl t_api_Effect x38 (.agg cs41.toArray)) fun ok hA => hA.get 0 rfl
    exact WL.nil ⟨rfl, _, rfl, ⟨cs41, rfl⟩, hs.cutG 1 2⟩ }
    {
    intro ρ w Γx Λx hs hu hp
    refine WL.fieldAddr (m := 2) ((hu 3 rfl).trans h24_3) FA35_2 rfl ?_
    exact WL.nil ⟨rfl, _, rfl, rfl, hs.cutG 0 0⟩ }
    {
    intro ρ w Γx Λx hs hu hp
    have e60 : ρ 61 = .pointer (some ⟨g11, 2, none⟩) := (hp 5 rfl).1
    refine WL.loadF (z := x5.Effects) F_history_Operation_Effects hs (Λx.length + 0) (getApp rfl) (Γx.length + 1) (getApp rfl) rfl TI30 (.inr rfl) e60 rfl (fun v43 hs => ?_)
    obtain ⟨a44, c45, rfl⟩ := hs.slice 0 rfl
    have hs := hs.add (it := vl (tSlice t_api_Effect) x5.Effects (.slice a44 (x5.Effects).length c45)) fun ok hA => hA.get 0 rfl
    exact WL.nil ⟨rfl, _, rfl, ⟨(a44, c45), rfl⟩, hs.cutG 1 1⟩ }
    {
    intro ρ w Γx Λx hs hu hp
    refine WL.move (v := .int .i64 x25) ((hu 5 rfl).trans h24_5) ?_
    exact WL.nil ⟨rfl, _, rfl, rfl, hs.cutG 0 0⟩ }
    {
    intro ρ w Γx Λx hs hu hp
    obtain ⟨⟨⟨a61, c62⟩, e63r⟩, hm64⟩ := hp 6 rfl
    have e63 : ρ 62 = .slice a61 (x5.Effects).length c62 := e63r
    rw [e63r] at hm64
    have hs := hs.memo1 (it := vl (tSlice t_api_Effect) x5.Effects (.slice a61 (x5.Effects).length c62)) (List.mem_append.2 (.inl (hm64 _ (List.mem_of_getElem? (i := 0) rfl))))
    have e65 : ρ 63 = .int .i64 x25 := (hp 7 rfl).1
    refine WL.indexAddr hs 0 rfl UN30 TI72 e63 e65 hxx46 (fun ad47 hs => ?_)
    have hs := hs.add (it := pl t_api_Effect x46 ad47) fun ok hA => hA.get 0 rfl
    exact WL.nil ⟨rfl, _, rfl, ⟨ad47, rfl⟩, hs.cutG 1 2⟩ }
    {
    intro ρ w Γx Λx hs hu hp
    obtain ⟨⟨ad66, e67r⟩, hm68⟩ := hp 8 rfl
    have e67 : ρ 64 = .pointer (some ad66) := e67r
    rw [e67r] at hm68
    have hs := hs.memo1 (it := pl t_api_Effect x46 ad66) (List.mem_append.2 (.inl (hm68 _ (List.mem_of_getElem? (i := 0) rfl))))
    refine WL.loadP hs 0 rfl TI72 (.inl rfl) e67 (fun v48 hs => ?_)
    obtain ⟨cs49, hl50, rfl⟩ := hs.aggv (n := 5) 0 rfl rfl rfl
    have hs := hs.add (it := vl t_api_Effect x46 (.agg cs49.toArray)) fun ok hA => hA.get 0 rfl
    exact WL.nil ⟨rfl, _, rfl, ⟨cs49, rfl⟩, hs.cutG 1 2⟩ }
    {
    intro ρ w Γx Λx hs hu hp
    obtain ⟨⟨cs69, e71r⟩, hm72⟩ := hp 4 rfl
    have e71 : ρ 60 = .agg cs69.toArray := e71r
    rw [e71r] at hm72
    have hs := hs.memo1 (it := vl t_api_Effect x38 (.agg cs69.toArray)) (List.mem_append.2 (.inl (hm72 _ (List.mem_of_getElem? (i := 0) rfl))))
    have hl70 := hs.agglen (n := 5) 0 rfl rfl rfl
    obtain ⟨⟨cs73, e75r⟩, hm76⟩ := hp 9 rfl
    have e75 : ρ 65 = .agg cs73.toArray := e75r
    rw [e75r] at hm76
    have hs := hs.memo1 (it := vl t_api_Effect x46 (.agg cs73.toArray)) (List.mem_cons_of_mem _ (List.mem_append.2 (.inl (hm76 _ (List.mem_of_getElem? (i := 0) rfl)))))
    have hl74 := hs.agglen (n := 5) 0 rfl rfl rfl
    obtain rfl := open_api_Effect hs 1 rfl
    obtain rfl := open_api_Effect hs 0 rfl
    refine WL.eqA e71 e75 EG72 (NQ72 (⟨x38.Kind, x38.Object, x38.Field, x38.N, x38.S⟩ : api_Effect) (⟨x46.Kind, x46.Object, x46.Field, x46.N, x46.S⟩ : api_Effect)) ?_
    exact WL.nil ⟨rfl, _, rfl, rfl, hs.cutG 0 2⟩ }
    {
    intro ρ w hs hu77 hp
    obtain ⟨⟨⟨⟨⟨⟨⟨⟨⟨⟨⟨_, hp0_⟩, hp1_⟩, hp2_⟩, hp3_⟩, hp4_⟩, hp5_⟩, hp6_⟩, hp7_⟩, hp8_⟩, hp9_⟩, hp10_⟩ := hp
    have hs : St ok (bz w0) w [vl t_api_Effect x46 (ρ 65), pl t_api_Effect x46 (adOf (ρ 64)), vl (tSlice t_api_Effect) x5.Effects (ρ 62), vl t_api_Effect x38 (ρ 60), pl t_api_Effect x38 (adOf (ρ 59)), vl (tSlice t_api_Effect) x1.Effects (ρ 57), vl (tSlice t_api_Effect) x1.Effects (.slice a30 (x1.Effects).length c31), vl t_history_Operation x5 (.agg cs7.toArray), vl t_history_Operation x1 (.agg cs3.toArray)] [blk g11 35 cs7, blk g10 35 cs3] := hs
    have e78 : ρ 66 = .bool (!decide ((⟨x38.Kind, x38.Object, x38.Field, x38.N, x38.S⟩ : api_Effect) = (⟨x46.Kind, x46.Object, x46.Field, x46.N, x46.S⟩ : api_Effect))) := hp10_
    obtain ⟨cs79, e81⟩ := hp9_
    have e81 : ρ 65 = .agg cs79.toArray := e81
    try rw [e81] at hs
    obtain ⟨ad82, e83⟩ := hp8_
    have e83 : ρ 64 = .pointer (some ad82) := e83
    try rw [e83] at hs
    have e84 : ρ 63 = .int .i64 x25 := hp7_
    obtain ⟨⟨a85, c86⟩, e87⟩ := hp6_
    have e87 : ρ 62 = .slice a85 (x5.Effects).length c86 := e87
    try rw [e87] at hs
    have e88 : ρ 61 = .pointer (some ⟨g11, 2, none⟩) := hp5_
    obtain ⟨cs89, e91⟩ := hp4_
    have e91 : ρ 60 = .agg cs89.toArray := e91
    try rw [e91] at hs
    obtain ⟨ad92, e93⟩ := hp3_
    have e93 : ρ 59 = .pointer (some ad92) := e93
    try rw [e93] at hs
    have e94 : ρ 58 = .int .i64 x25 := hp2_
    obtain ⟨⟨a95, c96⟩, e97⟩ := hp1_
    have e97 : ρ 57 = .slice a95 (x1.Effects).length c96 := e97
    try rw [e97] at hs
    have e98 : ρ 56 = .pointer (some ⟨g10, 2, none⟩) := hp0_
    have hl90 := hs.agglen (n := 5) 3 rfl rfl rfl
    have hl80 := hs.agglen (n := 5) 0 rfl rfl rfl
    refine WA.done (by kernel_rfl) ?_
    refine hK34 _ _ ?_
    rcases iteE hf with ⟨hc99, hf⟩ | ⟨hc99, hf⟩
    {
    refine W.cond_true (bool_tr e78 hc99) ?_
    refine W.seqK fun K100 hK100 => ?_
    refine W.region ?_
    refine WL.assign (v := .bool false) rfl ?_
    refine WL.nil ?_
    refine hK100 _ _ ?_
    refine W.ret ?_
    have hr := Option.some.inj hf; subst hr
    have hr := hbbs26 _ rfl; subst hr
    have hf := hfs26
    have hr := Option.some.inj hf; subst hr
    exact ⟨_, resOk_one rfl rfl, (), rfl, (hs.mask []).pick []⟩ }
    {
    refine W.cond_false (bool_tr e78 hc99) ?_
    refine W.skip ?_
    refine hK33 _ _ ?_
    refine W.region ?_
    refine WL.move (v := .int .i64 x25) ((hu77 5 rfl).trans h24_5) ?_
    obtain ⟨x101, ex101, hf⟩ := letE hf
    refine WL.bin (v := .int .i64 x101) rfl rfl (ib_as ex101 (ib_add _ _ _)) ?_
    refine WL.assign (v := .int .i64 x101) rfl ?_
    refine WL.nil ?_
    exact ⟨_, (Option.some.inj hf).symm, ((hu77 2 rfl).trans h24_2), ((hu77 3 rfl).trans h24_3), rfl, (hs.mask [true, true]).pick [7, 8]⟩ } } }
    {
    refine W.cond_false (bool_tr rfl hc32) ?_
    refine W.exit ?_
    have hr := Option.some.inj hf; subst hr
    have hr := hbbs26 _ rfl; subst hr
    have hf := hfs26
    exact Jk21  _ _  ((hs.mask []).pick []) hf } }
  refine W.region ?_
  refine WL.fieldAddr (m := 0) rfl FA35_0 rfl ?_
  refine WL.loadF (z := x1.Process) F_history_Operation_Process hs 1 rfl 0 rfl rfl TI3 (.inr rfl) rfl rfl (fun v103 hs => ?_)
  obtain rfl := hs.int 0 rfl
  refine WL.fieldAddr (m := 0) rfl FA35_0 rfl ?_
  refine WL.loadF (z := x5.Process) F_history_Operation_Process hs 0 rfl 2 rfl rfl TI3 (.inr rfl) rfl rfl (fun v104 hs => ?_)
  obtain rfl := hs.int 0 rfl
  refine WL.bin (v := .bool (x1.Process != x5.Process)) rfl rfl (ib_neq _ _ _) ?_
  refine WL.move (v := .bool (x1.Process != x5.Process)) rfl ?_
  rcases iteE hf with ⟨hc105, hf⟩ | ⟨hc105, hf⟩
  {
  refine WL.pass ((wanted_of rfl rfl (bool_tr rfl hc105)).trans rfl) rfl ?_
  refine WL.pass ((wanted_of rfl rfl (bool_tr rfl hc105)).trans rfl) rfl ?_
  refine WL.pass ((wanted_of rfl rfl (bool_tr rfl hc105)).trans rfl) rfl ?_
  refine WL.pass ((wanted_of rfl rfl (bool_tr rfl hc105)).trans rfl) rfl ?_
  refine WL.pass ((wanted_of rfl rfl (bool_tr rfl hc105)).trans rfl) rfl ?_
  refine WL.pickT (v := .bool true) (bool_tr rfl hc105) rfl ?_
  refine WL.move (v := .bool true) rfl ?_
  refine WL.pass ((wanted_of rfl rfl rfl).trans rfl) rfl ?_
  refine WL.pass ((wanted_of rfl rfl rfl).trans rfl) rfl ?_
  refine WL.pass ((wanted_of rfl rfl rfl).trans rfl) rfl ?_
  refine WL.pass ((wanted_of rfl rfl rfl).trans rfl) rfl ?_
  refine WL.pass ((wanted_of rfl rfl rfl).trans rfl) rfl ?_
  refine WL.pickT (v := .bool true) rfl rfl ?_
  refine WL.move (v := .bool true) rfl ?_
  refine WL.pass ((wanted_of rfl rfl rfl).trans rfl) rfl ?_
  refine WL.pass ((wanted_of rfl rfl rfl).trans rfl) rfl ?_
  refine WL.pass ((wanted_of rfl rfl rfl).trans rfl) rfl ?_
  refine WL.pass ((wanted_of rfl rfl rfl).trans rfl) rfl ?_
  refine WL.pass ((wanted_of rfl rfl rfl).trans rfl) rfl ?_
  refine WL.pickT (v := .bool true) rfl rfl ?_
  refine WL.move (v := .bool true) rfl ?_
  refine WL.pass ((wanted_of rfl rfl rfl).trans rfl) rfl ?_
  refine WL.pass ((wanted_of rfl rfl rfl).trans rfl) rfl ?_
  refine WL.pass ((wanted_of rfl rfl rfl).trans rfl) rfl ?_
  refine WL.pass ((wanted_of rfl rfl rfl).trans rfl) rfl ?_
  refine WL.pass ((wanted_of rfl rfl rfl).trans rfl) rfl ?_
  refine WL.pass ((wanted_of rfl rfl rfl).trans rfl) rfl ?_
  refine WL.pass ((wanted_of rfl rfl rfl).trans rfl) rfl ?_
  refine WL.pickT (v := .bool true) rfl rfl ?_
  refine WL.move (v := .bool true) rfl ?_
  refine WL.pass ((wanted_of rfl rfl rfl).trans rfl) rfl ?_
  refine WL.pass ((wanted_of rfl rfl rfl).trans rfl) rfl ?_
  refine WL.pass ((wanted_of rfl rfl rfl).trans rfl) rfl ?_
  refine WL.pass ((wanted_of rfl rfl rfl).trans rfl) rfl ?_
  refine WL.pass ((wanted_of rfl rfl rfl).trans rfl) rfl ?_
  refine WL.pass ((wanted_of rfl rfl rfl).trans rfl) rfl ?_
  refine WL.pickT (v := .bool true) rfl rfl ?_
  refine WL.nil ?_
  exact Jk16 true _ _ rfl rfl rfl ((hs.mask [true, true]).pick [3, 2]) hf }
  {
  refine WL.fieldAddr (m := 1) rfl FA35_1 rfl ?_ (hg := (wanted_of rfl rfl (bool_tr rfl hc105)).trans rfl)
  refine WL.loadF (z := x1.Kind) F_history_Operation_Kind hs 1 rfl 2 rfl rfl TI3 (.inr rfl) rfl rfl (fun v106 hs => ?_) (hg := (wanted_of rfl rfl (bool_tr rfl hc105)).trans rfl)
  obtain rfl := hs.int 0 rfl
  refine WL.fieldAddr (m := 1) rfl FA35_1 rfl ?_ (hg := (wanted_of rfl rfl (bool_tr rfl hc105)).trans rfl)
  refine WL.loadF (z := x5.Kind) F_history_Operation_Kind hs 0 rfl 4 rfl rfl TI3 (.inr rfl) rfl rfl (fun v107 hs => ?_) (hg := (wanted_of rfl rfl (bool_tr rfl hc105)).trans rfl)
  obtain rfl := hs.int 0 rfl
  refine WL.bin (v := .bool (x1.Kind != x5.Kind)) rfl rfl (ib_neq _ _ _) ?_ (hg := (wanted_of rfl rfl (bool_tr rfl hc105)).trans rfl)
  refine WL.pickF (v := .bool (x1.Kind != x5.Kind)) (bool_tr rfl hc105) rfl ?_
  refine WL.move (v := .bool (x1.Kind != x5.Kind)) rfl ?_
  rcases iteE hf with ⟨hc108, hf⟩ | ⟨hc108, hf⟩
  {
  refine WL.pass ((wanted_of rfl rfl (bool_tr rfl hc108)).trans rfl) rfl ?_
  refine WL.pass ((wanted_of rfl rfl (bool_tr rfl hc108)).trans rfl) rfl ?_
  refine WL.pass ((wanted_of rfl rfl (bool_tr rfl hc108)).trans rfl) rfl ?_
  refine WL.pass ((wanted_of rfl rfl (bool_tr rfl hc108)).trans rfl) rfl ?_
  refine WL.pass ((wanted_of rfl rfl (bool_tr rfl hc108)).trans rfl) rfl ?_
  refine WL.pickT (v := .bool true) (bool_tr rfl hc108) rfl ?_
  refine WL.move (v := .bool true) rfl ?_
  refine WL.pass ((wanted_of rfl rfl rfl).trans rfl) rfl ?_
  refine WL.pass ((wanted_of rfl rfl rfl).trans rfl) rfl ?_
  refine WL.pass ((wanted_of rfl rfl rfl).trans rfl) rfl ?_
  refine WL.pass ((wanted_of rfl rfl rfl).trans rfl) rfl ?_
  refine WL.pass ((wanted_of rfl rfl rfl).trans rfl) rfl ?_
  refine WL.pickT (v := .bool true) rfl rfl ?_
  refine WL.move (v := .bool true) rfl ?_
  refine WL.pass ((wanted_of rfl rfl rfl).trans rfl) rfl ?_
  refine WL.pass ((wanted_of rfl rfl rfl).trans rfl) rfl ?_
  refine WL.pass ((wanted_of rfl rfl rfl).trans rfl) rfl ?_
  refine WL.pass ((wanted_of rfl rfl rfl).trans rfl) rfl ?_
  refine WL.pass ((wanted_of rfl rfl rfl).trans rfl) rfl ?_
  refine WL.pass ((wanted_of rfl rfl rfl).trans rfl) rfl ?_
  refine WL.pass ((wanted_of rfl rfl rfl).trans rfl) rfl ?_
  refine WL.pickT (v := .bool true) rfl rfl ?_
  refine WL.move (v := .bool true) rfl ?_
  refine WL.pass ((wanted_of rfl rfl rfl).trans rfl) rfl ?_
  refine WL.pass ((wanted_of rfl rfl rfl).trans rfl) rfl ?_
  refine WL.pass ((wanted_of rfl rfl rfl).trans rfl) rfl ?_
  refine WL.pass ((wanted_of rfl rfl rfl).trans rfl) rfl ?_
  refine WL.pass ((wanted_of rfl rfl rfl).trans rfl) rfl ?_
  refine WL.pass ((wanted_of rfl rfl rfl).trans rfl) rfl ?_
  refine WL.pickT (v := .bool true) rfl rfl ?_
  refine WL.nil ?_
  exact Jk16 true _ _ rfl rfl rfl ((hs.mask [true, true]).pick [5, 4]) hf }
  {
  refine WL.fieldAddr (m := 4) rfl FA35_4 rfl ?_ (hg := (wanted_of rfl rfl (bool_tr rfl hc108)).trans rfl)
  refine WL.loadF (z := x1.Call) F_history_Operation_Call hs 1 rfl 4 rfl rfl TI3 (.inr rfl) rfl rfl (fun v109 hs => ?_) (hg := (wanted_of rfl rfl (bool_tr rfl hc108)).trans rfl)
  obtain rfl := hs.int 0 rfl
  refine WL.fieldAddr (m := 4) rfl FA35_4 rfl ?_ (hg := (wanted_of rfl rfl (bool_tr rfl hc108)).trans rfl)
  refine WL.loadF (z := x5.Call) F_history_Operation_Call hs 0 rfl 6 rfl rfl TI3 (.inr rfl) rfl rfl (fun v110 hs => ?_) (hg := (wanted_of rfl rfl (bool_tr rfl hc108)).trans rfl)
  obtain rfl := hs.int 0 rfl
  refine WL.bin (v := .bool (x1.Call != x5.Call)) rfl rfl (ib_neq _ _ _) ?_ (hg := (wanted_of rfl rfl (bool_tr rfl hc108)).trans rfl)
  refine WL.pickF (v := .bool (x1.Call != x5.Call)) (bool_tr rfl hc108) rfl ?_
  refine WL.move (v := .bool (x1.Call != x5.Call)) rfl ?_
  rcases iteE hf with ⟨hc111, hf⟩ | ⟨hc111, hf⟩
  {
  refine WL.pass ((wanted_of rfl rfl (bool_tr rfl hc111)).trans rfl) rfl ?_
  refine WL.pass ((wanted_of rfl rfl (bool_tr rfl hc111)).trans rfl) rfl ?_
  refine WL.pass ((wanted_of rfl rfl (bool_tr rfl hc111)).trans rfl) rfl ?_
  refine WL.pass ((wanted_of rfl rfl (bool_tr rfl hc111)).trans rfl) rfl ?_
  refine WL.pass ((wanted_of rfl rfl (bool_tr rfl hc111)).trans rfl) rfl ?_
  refine WL.pickT (v := .bool true) (bool_tr rfl hc111) rfl ?_
  refine WL.move (v := .bool true) rfl ?_
  refine WL.pass ((wanted_of rfl rfl rfl).trans rfl) rfl ?_
  refine WL.pass ((wanted_of rfl rfl rfl).trans rfl) rfl ?_
  refine WL.pass ((wanted_of rfl rfl rfl).trans rfl) rfl ?_
  refine WL.pass ((wanted_of rfl rfl rfl).trans rfl) rfl ?_
  refine WL.pass ((wanted_of rfl rfl rfl).trans rfl) rfl ?_
  refine WL.pass ((wanted_of rfl rfl rfl).trans rfl) rfl ?_
  refine WL.pass ((wanted_of rfl rfl rfl).trans rfl) rfl ?_
  refine WL.pickT (v := .bool true) rfl rfl ?_
  refine WL.move (v := .bool true) rfl ?_
  refine WL.pass ((wanted_of rfl rfl rfl).trans rfl) rfl ?_
  refine WL.pass ((wanted_of rfl rfl rfl).trans rfl) rfl ?_
  refine WL.pass ((wanted_of rfl rfl rfl).trans rfl) rfl ?_
  refine WL.pass ((wanted_of rfl rfl rfl).trans rfl) rfl ?_
  refine WL.pass ((wanted_of rfl rfl rfl).trans rfl) rfl ?_
  refine WL.pass ((wanted_of rfl rfl rfl).trans rfl) rfl ?_
  refine WL.pickT (v := .bool true) rfl rfl ?_
  refine WL.nil ?_
  exact Jk16 true _ _ rfl rfl rfl ((hs.mask [true, true]).pick [7, 6]) hf }
  {
  refine WL.fieldAddr (m := 5) rfl FA35_5 rfl ?_ (hg := (wanted_of rfl rfl (bool_tr rfl hc111)).trans rfl)
  refine WL.loadF (z := x1.Return) F_history_Operation_Return hs 1 rfl 6 rfl rfl TI3 (.inr rfl) rfl rfl (fun v112 hs => ?_) (hg := (wanted_of rfl rfl (bool_tr rfl hc111)).trans rfl)
  obtain rfl := hs.int 0 rfl
  refine WL.fieldAddr (m := 5) rfl FA35_5 rfl ?_ (hg := (wanted_of rfl rfl (bool_tr rfl hc111)).trans rfl)
  refine WL.loadF (z := x5.Return) F_history_Operation_Return hs 0 rfl 8 rfl rfl TI3 (.inr rfl) rfl rfl (fun v113 hs => ?_) (hg := (wanted_of rfl rfl (bool_tr rfl hc111)).trans rfl)
  obtain rfl := hs.int 0 rfl
  refine WL.bin (v := .bool (x1.Return != x5.Return)) rfl rfl (ib_neq _ _ _) ?_ (hg := (wanted_of rfl rfl (bool_tr rfl hc111)).trans rfl)
  refine WL.pickF (v := .bool (x1.Return != x5.Return)) (bool_tr rfl hc111) rfl ?_
  refine WL.move (v := .bool (x1.Return != x5.Return)) rfl ?_
  rcases iteE hf with ⟨hc114, hf⟩ | ⟨hc114, hf⟩
  {
  refine WL.pass ((wanted_of rfl rfl (bool_tr rfl hc114)).trans rfl) rfl ?_
  refine WL.pass ((wanted_of rfl rfl (bool_tr rfl hc114)).trans rfl) rfl ?_
  refine WL.pass ((wanted_of rfl rfl (bool_tr rfl hc114)).trans rfl) rfl ?_
  refine WL.pass ((wanted_of rfl rfl (bool_tr rfl hc114)).trans rfl) rfl ?_
  refine WL.pass ((wanted_of rfl rfl (bool_tr rfl hc114)).trans rfl) rfl ?_
  refine WL.pass ((wanted_of rfl rfl (bool_tr rfl hc114)).trans rfl) rfl ?_
  refine WL.pass ((wanted_of rfl rfl (bool_tr rfl hc114)).trans rfl) rfl ?_
  refine WL.pickT (v := .bool true) (bool_tr rfl hc114) rfl ?_
  refine WL.move (v := .bool true) rfl ?_
  refine WL.pass ((wanted_of rfl rfl rfl).trans rfl) rfl ?_
  refine WL.pass ((wanted_of rfl rfl rfl).trans rfl) rfl ?_
  refine WL.pass ((wanted_of rfl rfl rfl).trans rfl) rfl ?_
  refine WL.pass ((wanted_of rfl rfl rfl).trans rfl) rfl ?_
  refine WL.pass ((wanted_of rfl rfl rfl).trans rfl) rfl ?_
  refine WL.pass ((wanted_of rfl rfl rfl).trans rfl) rfl ?_
  refine WL.pickT (v := .bool true) rfl rfl ?_
  refine WL.nil ?_
  exact Jk16 true _ _ rfl rfl rfl ((hs.mask [true, true]).pick [9, 8]) hf }
  {
  refine WL.fieldAddr (m := 2) rfl FA35_2 rfl ?_ (hg := (wanted_of rfl rfl (bool_tr rfl hc114)).trans rfl)
  refine WL.loadF (z := x1.Effects) F_history_Operation_Effects hs 1 rfl 8 rfl rfl TI30 (.inr rfl) rfl rfl (fun v115 hs => ?_) (hg := (wanted_of rfl rfl (bool_tr rfl hc114)).trans rfl)
  obtain ⟨a116, c117, rfl⟩ := hs.slice 0 rfl
  refine WL.len (v := .slice a116 (x1.Effects).length c117) rfl (len_slice UN30) ?_ (hg := (wanted_of rfl rfl (bool_tr rfl hc114)).trans rfl)
  refine WL.fieldAddr (m := 2) rfl FA35_2 rfl ?_ (hg := (wanted_of rfl rfl (bool_tr rfl hc114)).trans rfl)
  refine WL.loadF (z := x5.Effects) F_history_Operation_Effects hs 0 rfl 10 rfl rfl TI30 (.inr rfl) rfl rfl (fun v118 hs => ?_) (hg := (wanted_of rfl rfl (bool_tr rfl hc114)).trans rfl)
  obtain ⟨a119, c120, rfl⟩ := hs.slice 0 rfl
  refine WL.len (v := .slice a119 (x5.Effects).length c120) rfl (len_slice UN30) ?_ (hg := (wanted_of rfl rfl (bool_tr rfl hc114)).trans rfl)
  refine WL.bin (v := .bool (((x1.Effects).length : Int) != ((x5.Effects).length : Int))) rfl rfl (ib_neq _ _ _) ?_ (hg := (wanted_of rfl rfl (bool_tr rfl hc114)).trans rfl)
  refine WL.pickF (v := .bool (((x1.Effects).length : Int) != ((x5.Effects).length : Int))) (bool_tr rfl hc114) rfl ?_
  refine WL.move (v := .bool (((x1.Effects).length : Int) != ((x5.Effects).length : Int))) rfl ?_
  rcases iteE hf with ⟨hc121, hf⟩ | ⟨hc121, hf⟩
  {
  refine WL.pass ((wanted_of rfl rfl (bool_tr rfl hc121)).trans rfl) rfl ?_
  refine WL.pass ((wanted_of rfl rfl (bool_tr rfl hc121)).trans rfl) rfl ?_
  refine WL.pass ((wanted_of rfl rfl (bool_tr rfl hc121)).trans rfl) rfl ?_
  refine WL.pass ((wanted_of rfl rfl (bool_tr rfl hc121)).trans rfl) rfl ?_
  refine WL.pass ((wanted_of rfl rfl (bool_tr rfl hc121)).trans rfl) rfl ?_
  refine WL.pass ((wanted_of rfl rfl (bool_tr rfl hc121)).trans rfl) rfl ?_
  refine WL.pickT (v := .bool true) (bool_tr rfl hc121) rfl ?_
  refine WL.nil ?_
  exact Jk16 true _ _ rfl rfl rfl ((hs.mask [true, true]).pick [11, 10]) hf }
  {
  refine WL.fieldAddr (m := 3) rfl FA35_3 rfl ?_ (hg := (wanted_of rfl rfl (bool_tr rfl hc121)).trans rfl)
  refine WL.loadF (z := x1.Result) F_history_Operation_Result hs 1 rfl 10 rfl rfl TI31 (.inr rfl) rfl rfl (fun v122 hs => ?_) (hg := (wanted_of rfl rfl (bool_tr rfl hc121)).trans rfl)
  obtain ⟨a123, c124, rfl⟩ := hs.slice 0 rfl
  refine WL.fieldAddr (m := 3) rfl FA35_3 rfl ?_ (hg := (wanted_of rfl rfl (bool_tr rfl hc121)).trans rfl)
  refine WL.loadF (z := x5.Result) F_history_Operation_Result hs 0 rfl 12 rfl rfl TI31 (.inr rfl) rfl rfl (fun v125 hs => ?_) (hg := (wanted_of rfl rfl (bool_tr rfl hc121)).trans rfl)
  obtain ⟨a126, c127, rfl⟩ := hs.slice 0 rfl
  obtain ⟨x128, hxx128, hf⟩ := bindE hf
  refine WL.call (vs := [.slice a123 (x1.Result).length c124, .slice a126 (x5.Result).length c127]) hs FN26 ⟨rfl, ⟨rfl, trivial⟩⟩ (fun ok hA => esref39_SameValues.calls (x1 := x1.Result) (x4 := x5.Result) hxx128 (hA.get 1 rfl) (hA.get 0 rfl)) ?_ (hg := (wanted_of rfl rfl (bool_tr rfl hc121)).trans rfl)
  rintro _ w hs
  refine WL.not rfl ?_ (hg := (wanted_of rfl rfl (bool_tr rfl hc121)).trans rfl)
  refine WL.pickF (v := .bool (!x128)) (bool_tr rfl hc121) rfl ?_
  refine WL.nil ?_
  exact Jk16 (!x128) _ _ rfl rfl rfl ((hs.mask [true, true]).pick [13, 12]) hf } } } } }
end Go.Proofs.Ytbbeobiampbddaa
