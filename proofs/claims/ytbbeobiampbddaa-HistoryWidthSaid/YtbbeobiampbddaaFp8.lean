import Derived.Test.YtbbeobiampbddaaFh
import Derived.Test.YtbbeobiampbddaaLz
import Derived.Test.YtbbeobiampbddaaLx
import Derived.Test.YtbbeobiampbddaaFp2
import Derived.Test.YtbbeobiampbddaaFp3
import Derived.Test.YtbbeobiampbddaaFp4
set_option linter.unusedVariables false
set_option linter.unusedSimpArgs false
namespace Go.Proofs.Ytbbeobiampbddaa
open Go Go.RowKit Go.Proofs.YtbbeobiampbddaaL
set_option maxRecDepth 100000
set_option maxHeartbeats 4000000
/-! elasticstore/elasticstoreref39.Width: function 23 -/
theorem esref39_Width.calls {ok : Nat → Prop} {w0 : World} {x1 : history_History} {v2 : Value} {r : Int} (hf : esref39_Width x1 = some r) (i0 : (vl t_history_History x1 v2).holds ok w0) :
    Calls Try.prog 23 #[v2] w0 fun e w' => ∃ v, e = .returned v ∧ ∃ y : Unit, v = .int .i64 r ∧ St ok (bz w0) w' [] [] := by
  unfold esref39_Width at hf
  refine calls_of_W (fn := Try.f23) (N := 46) Try.func23 rfl Try.ntmps23 rfl ?_
  have hs : St ok (bz w0) w0 [vl t_history_History x1 v2] [] := St.init (All.cons i0 All.nil)
  clear i0
  obtain ⟨cs3, hl4, rfl⟩ := hs.aggv (n := 1) 0 rfl rfl rfl
  refine W.seqK fun K5 hK5 => ?_
  refine W.region ?_
  refine WL.box (vs := cs3) hs rfl rfl (fun g6 w hs => ?_)
  refine WL.assign (v := .int .i64 0) rfl ?_
  refine WL.nil ?_
  refine hK5 _ _ ?_
  refine W.seqK fun K7 hK7 => ?_
  refine W.region ?_
  refine WL.assign (v := .int .i64 0) rfl ?_
  refine WL.nil ?_
  refine hK7 _ _ ?_
  refine W.seqK fun K8 hK8 => ?_
  have Jk11 : ∀ (x10 : Int) (ρ : Env) (w : World), ρ 3 = .int .i64 x10 → St ok (bz w0) w [] [] → esref39_Width.j1 x10 = some r → K8 ρ w := by
    intro x10 ρ w h9_3 hs hf
    refine hK8 _ _ ?_
    unfold esref39_Width.j1 at hf
    refine W.seqK fun K12 hK12 => ?_
    refine W.region ?_
    refine WL.move (v := .int .i64 x10) h9_3 ?_
    refine WL.assign (v := .int .i64 x10) rfl ?_
    refine WL.nil ?_
    refine hK12 _ _ ?_
    refine W.ret ?_
    have hr := Option.some.inj hf; subst hr
    exact ⟨_, resOk_one rfl rfl, (), rfl, (hs.mask []).pick []⟩
  refine W.seqK fun K13 hK13 => ?_
  refine W.region ?_
  refine WL.assign (v := .int .i64 0) rfl ?_
  refine WL.nil ?_
  refine hK13 _ _ ?_
  refine W.block ?_
  obtain ⟨bs17, hbs17, hfs17⟩ := bindE hf
  refine W.loop hbs17 (fun s ρ w => match s with | (x15, x16) => ρ 1 = .pointer (some ⟨g6, 0, none⟩) ∧ ρ 3 = .int .i64 x15 ∧ ρ 4 = .int .i64 x16 ∧ St ok (bz w0) w [vl t_history_History x1 (.agg cs3.toArray)] [blk g6 24 cs3]) ⟨rfl, rfl, rfl, (hs.mask [true]).pick [0]⟩ ?_
  intro s ρ w os17 hI hf hbbs17
  obtain ⟨x15, x16⟩ := s
  obtain ⟨h14_1, h14_3, h14_4, hs⟩ := hI
  unfold esref39_Width.l2 at hf
  refine W.seqK fun K18 hK18 => ?_
  refine W.seqK fun K19 hK19 => ?_
  refine W.region ?_
  refine WL.move (v := .int .i64 x16) h14_4 ?_
  refine WL.fieldAddr (m := 0) h14_1 FA24_0 rfl ?_
  refine WL.loadF (z := x1.Operations) F_history_History_Operations hs 0 rfl 0 rfl rfl TI22 (.inr rfl) rfl rfl (fun v20 hs => ?_)
  obtain ⟨a21, c22, rfl⟩ := hs.slice 0 rfl
  refine WL.len (v := .slice a21 (x1.Operations).length c22) rfl (len_slice UN22) ?_
  refine WL.bin (v := .bool (decide (x16 < ((x1.Operations).length : Int)))) rfl rfl (ib_lss _ _ _) ?_
  refine WL.nil ?_
  refine hK19 _ _ ?_
  rcases iteE hf with ⟨hc23, hf⟩ | ⟨hc23, hf⟩
  {
  refine W.cond_true (bool_tr rfl hc23) ?_
  refine W.skip ?_
  refine hK18 _ _ ?_
  refine W.seqK fun K24 hK24 => ?_
  have Jk27 : ∀ (x26 : Int) (ρ : Env) (w : World), ρ 1 = .pointer (some ⟨g6, 0, none⟩) → ρ 3 = .int .i64 x26 → ρ 4 = .int .i64 x16 → St ok (bz w0) w [vl t_history_History x1 (.agg cs3.toArray)] [blk g6 24 cs3] → esref39_Width.j2 x16 x26 = some os17 → K24 ρ w := by
    intro x26 ρ w h25_1 h25_3 h25_4 hs hf
    refine hK24 _ _ ?_
    unfold esref39_Width.j2 at hf
    refine W.region ?_
    refine WL.move (v := .int .i64 x16) h25_4 ?_
    obtain ⟨x28, ex28, hf⟩ := letE hf
    refine WL.bin (v := .int .i64 x28) rfl rfl (ib_as ex28 (ib_add _ _ _)) ?_
    refine WL.assign (v := .int .i64 x28) rfl ?_
    refine WL.nil ?_
    exact ⟨_, (Option.some.inj hf).symm, h25_1, h25_3, rfl, (hs.mask [true]).pick [0]⟩
  refine W.block ?_
  refine W.seqK fun K29 hK29 => ?_
  refine W.region ?_
  refine WL.assign (v := .int .i64 0) rfl ?_
  refine WL.nil ?_
  refine hK29 _ _ ?_
  refine W.seqK fun K30 hK30 => ?_
  refine W.region ?_
  refine WL.fieldAddr (m := 0) h14_1 FA24_0 rfl ?_
  refine WL.loadF (z := x1.Operations) F_history_History_Operations hs 0 rfl 1 rfl rfl TI22 (.inr rfl) rfl rfl (fun v31 hs => ?_)
  obtain ⟨a32, c33, rfl⟩ := hs.slice 0 rfl
  refine WL.move (v := .int .i64 x16) h14_4 ?_
  obtain ⟨x34, hxx34, hf⟩ := bindE hf
  refine WL.indexAddr hs 0 rfl UN22 TI35 rfl rfl hxx34 (fun ad35 hs => ?_)
  refine WL.fieldAddrP (z := x34.Call) F_history_Operation_Call hs 0 rfl rfl FA35_4 rfl (fun ad36 hs => ?_)
  refine WL.loadP hs 0 rfl TI3 (.inr rfl) rfl (fun v37 hs => ?_)
  obtain rfl := hs.int 0 rfl
  refine WL.assign (v := .int .i64 x34.Call) rfl ?_
  refine WL.nil ?_
  refine hK30 _ _ ?_
  refine W.seqK fun K38 hK38 => ?_
  have Jk41 : ∀ (x40 : Int) (ρ : Env) (w : World), ρ 1 = .pointer (some ⟨g6, 0, none⟩) → ρ 3 = .int .i64 x15 → ρ 4 = .int .i64 x16 → ρ 5 = .int .i64 x40 → St ok (bz w0) w [vl t_history_History x1 (.agg cs3.toArray)] [blk g6 24 cs3] → esref39_Width.j3 x15 x16 x40 = some os17 → K38 ρ w := by
    intro x40 ρ w h39_1 h39_3 h39_4 h39_5 hs hf
    refine hK38 _ _ ?_
    unfold esref39_Width.j3 at hf
    refine W.region ?_
    refine WL.move (v := .int .i64 x15) h39_3 ?_
    refine WL.move (v := .int .i64 x40) h39_5 ?_
    refine WL.max rfl rfl ?_
    refine WL.assign (v := .int .i64 (maxI x15 x40)) rfl ?_
    refine WL.nil ?_
    exact Jk27 (maxI x15 x40) _ _ h39_1 rfl h39_4 ((hs.mask [true]).pick [0]) hf
  refine W.seqK fun K42 hK42 => ?_
  refine W.region ?_
  refine WL.assign (v := .int .i64 0) rfl ?_
  refine WL.nil ?_
  refine hK42 _ _ ?_
  refine W.block ?_
  obtain ⟨bs46, hbs46, hfs46⟩ := bindE hf
  refine W.loop hbs46 (fun s ρ w => match s with | (x44, x45) => ρ 1 = .pointer (some ⟨g6, 0, none⟩) ∧ ρ 3 = .int .i64 x15 ∧ ρ 4 = .int .i64 x16 ∧ ρ 5 = .int .i64 x44 ∧ ρ 6 = .int .i64 x34.Call ∧ ρ 7 = .int .i64 x45 ∧ St ok (bz w0) w [vl t_history_History x1 (.agg cs3.toArray)] [blk g6 24 cs3]) ⟨h14_1, h14_3, h14_4, rfl, rfl, rfl, (hs.mask [true]).pick [5]⟩ ?_
  intro s ρ w os46 hI hf hbbs46
  obtain ⟨x44, x45⟩ := s
  obtain ⟨h43_1, h43_3, h43_4, h43_5, h43_6, h43_7, hs⟩ := hI
  unfold esref39_Width.l1 at hf
  refine W.seqK fun K47 hK47 => ?_
  refine W.seqK fun K48 hK48 => ?_
  refine W.region ?_
  refine WL.move (v := .int .i64 x45) h43_7 ?_
  refine WL.move (v := .int .i64 x16) h43_4 ?_
  refine WL.bin (v := .bool (decide (x45 ≤ x16))) rfl rfl (ib_leq _ _ _) ?_
  refine WL.nil ?_
  refine hK48 _ _ ?_
  rcases iteE hf with ⟨hc49, hf⟩ | ⟨hc49, hf⟩
  {
  refine W.cond_true (bool_tr rfl hc49) ?_
  refine W.skip ?_
  refine hK47 _ _ ?_
  refine W.seqK fun K50 hK50 => ?_
  have Jk53 : ∀ (x52 : Int) (ρ : Env) (w : World), ρ 1 = .pointer (some ⟨g6, 0, none⟩) → ρ 3 = .int .i64 x15 → ρ 4 = .int .i64 x16 → ρ 5 = .int .i64 x52 → ρ 6 = .int .i64 x34.Call → ρ 7 = .int .i64 x45 → St ok (bz w0) w [vl t_history_History x1 (.agg cs3.toArray)] [blk g6 24 cs3] → esref39_Width.j4 x45 x52 = some os46 → K50 ρ w := by
    intro x52 ρ w h51_1 h51_3 h51_4 h51_5 h51_6 h51_7 hs hf
    refine hK50 _ _ ?_
    unfold esref39_Width.j4 at hf
    refine W.region ?_
    refine WL.move (v := .int .i64 x45) h51_7 ?_
    obtain ⟨x54, ex54, hf⟩ := letE hf
    refine WL.bin (v := .int .i64 x54) rfl rfl (ib_as ex54 (ib_add _ _ _)) ?_
    refine WL.assign (v := .int .i64 x54) rfl ?_
    refine WL.nil ?_
    exact ⟨_, (Option.some.inj hf).symm, h51_1, h51_3, h51_4, h51_5, h51_6, rfl, (hs.mask [true]).pick [0]⟩
  refine W.block ?_
  refine W.seqK fun K55 hK55 => ?_
  refine W.region ?_
  refine WL.fieldAddr (m := 0) h43_1 FA24_0 rfl ?_
  refine WL.loadF (z := x1.Operations) F_history_History_Operations hs 0 rfl 0 rfl rfl TI22 (.inr rfl) rfl rfl (fun v56 hs => ?_)
  obtain ⟨a57, c58, rfl⟩ := hs.slice 0 rfl
  refine WL.move (v := .int .i64 x45) h43_7 ?_
  obtain ⟨x59, hxx59, hf⟩ := bindE hf
  refine WL.indexAddr hs 0 rfl UN22 TI35 rfl rfl hxx59 (fun ad60 hs => ?_)
  refine WL.fieldAddrP (z := x59.Return) F_history_Operation_Return hs 0 rfl rfl FA35_5 rfl (fun ad61 hs => ?_)
  refine WL.loadP hs 0 rfl TI3 (.inr rfl) rfl (fun v62 hs => ?_)
  obtain rfl := hs.int 0 rfl
  refine WL.assign (v := .int .i64 x59.Return) rfl ?_
  refine WL.nil ?_
  refine hK55 _ _ ?_
  refine W.seqK fun K63 hK63 => ?_
  have Jk66 : ∀ (x65 : Bool) (ρ : Env) (w : World), ρ 1 = .pointer (some ⟨g6, 0, none⟩) → ρ 3 = .int .i64 x15 → ρ 4 = .int .i64 x16 → ρ 5 = .int .i64 x44 → ρ 6 = .int .i64 x34.Call → ρ 7 = .int .i64 x45 → ρ 39 = .bool x65 → St ok (bz w0) w [vl t_history_History x1 (.agg cs3.toArray)] [blk g6 24 cs3] → esref39_Width.j5 x44 x45 x65 = some os46 → K63 ρ w := by
    intro x65 ρ w h64_1 h64_3 h64_4 h64_5 h64_6 h64_7 h64_39 hs hf
    refine hK63 _ _ ?_
    unfold esref39_Width.j5 at hf
    rcases iteE hf with ⟨hc67, hf⟩ | ⟨hc67, hf⟩
    {
    refine W.cond_true (bool_tr h64_39 hc67) ?_
    refine W.region ?_
    refine WL.move (v := .int .i64 x44) h64_5 ?_
    obtain ⟨x68, ex68, hf⟩ := letE hf
    refine WL.bin (v := .int .i64 x68) rfl rfl (ib_as ex68 (ib_add _ _ _)) ?_
    refine WL.assign (v := .int .i64 x68) rfl ?_
    refine WL.nil ?_
    exact Jk53 x68 _ _ h64_1 h64_3 h64_4 rfl h64_6 h64_7 ((hs.mask [true]).pick [0]) hf }
    {
    refine W.cond_false (bool_tr h64_39 hc67) ?_
    refine W.skip ?_
    exact Jk53 x44 _ _ h64_1 h64_3 h64_4 h64_5 h64_6 h64_7 ((hs.mask [true]).pick [0]) hf }
  refine W.region ?_
  refine WL.move (v := .int .i64 x59.Return) rfl ?_
  refine WL.bin (v := .bool (x59.Return == 0)) rfl rfl (ib_eql _ _ _) ?_
  refine WL.move (v := .bool (x59.Return == 0)) rfl ?_
  rcases iteE hf with ⟨hc69, hf⟩ | ⟨hc69, hf⟩
  {
  refine WL.pass ((wanted_of rfl rfl (bool_tr rfl hc69)).trans rfl) rfl ?_
  refine WL.pass ((wanted_of rfl rfl (bool_tr rfl hc69)).trans rfl) rfl ?_
  refine WL.pass ((wanted_of rfl rfl (bool_tr rfl hc69)).trans rfl) rfl ?_
  refine WL.pickT (v := .bool true) (bool_tr rfl hc69) rfl ?_
  refine WL.nil ?_
  exact Jk66 true _ _ h43_1 h43_3 h43_4 h43_5 h43_6 h43_7 rfl ((hs.mask [true]).pick [4]) hf }
  {
  refine WL.move (v := .int .i64 x59.Return) rfl ?_ (hg := (wanted_of rfl rfl (bool_tr rfl hc69)).trans rfl)
  refine WL.move (v := .int .i64 x34.Call) h43_6 ?_ (hg := (wanted_of rfl rfl (bool_tr rfl hc69)).trans rfl)
  refine WL.bin (v := .bool (decide (x34.Call < x59.Return))) rfl rfl (ib_gtr _ _ _) ?_ (hg := (wanted_of rfl rfl (bool_tr rfl hc69)).trans rfl)
  refine WL.pickF (v := .bool (decide (x34.Call < x59.Return))) (bool_tr rfl hc69) rfl ?_
  refine WL.nil ?_
  exact Jk66 (decide (x34.Call < x59.Return)) _ _ h43_1 h43_3 h43_4 h43_5 h43_6 h43_7 rfl ((hs.mask [true]).pick [4]) hf } }
  {
  refine W.cond_false (bool_tr rfl hc49) ?_
  refine W.exit ?_
  have hr := Option.some.inj hf; subst hr
  have hr := hbbs46 _ rfl; subst hr
  have hf := hfs46
  exact Jk41 x44 _ _ h43_1 h43_3 h43_4 h43_5 ((hs.mask [true]).pick [0]) hf } }
  {
  refine W.cond_false (bool_tr rfl hc23) ?_
  refine W.exit ?_
  have hr := Option.some.inj hf; subst hr
  have hr := hbbs17 _ rfl; subst hr
  have hf := hfs17
  exact Jk11 x15 _ _ h14_3 ((hs.mask []).pick []) hf }
/-! elasticstore/elasticstorelaw38.HistoryWidth: function 7 -/
theorem eslaw38_HistoryWidth.calls {ok : Nat → Prop} {w0 : World} {x1 : List Int} {x4 : Int} {a2 : Option Addr} {c3 : Nat} {r : Bool} (hf : eslaw38_HistoryWidth x1 x4 = some r) (i0 : (vl (tSlice (tInt .i64)) x1 (.slice a2 x1.length c3)).holds ok w0) :
    Calls Try.prog 7 #[.slice a2 x1.length c3, .int .i64 x4] w0 fun e w' => ∃ v, e = .returned v ∧ ∃ y : Unit, v = .bool r ∧ St ok (bz w0) w' [] [] := by
  unfold eslaw38_HistoryWidth at hf
  refine calls_of_W (fn := Try.f7) (N := 125) Try.func7 rfl Try.ntmps7 rfl ?_
  have hs : St ok (bz w0) w0 [vl (tSlice (tInt .i64)) x1 (.slice a2 x1.length c3)] [] := St.init (All.cons i0 All.nil)
  clear i0
  refine W.seqK fun K5 hK5 => ?_
  refine W.region ?_
  refine WL.assign (v := .bool false) rfl ?_
  refine WL.nil ?_
  refine hK5 _ _ ?_
  refine W.seqK fun K6 hK6 => ?_
  refine W.region ?_
  refine WL.move (v := .slice a2 x1.length c3) rfl ?_
  obtain ⟨x7, hxx7, hf⟩ := bindE hf
  refine WL.call (vs := [.slice a2 x1.length c3]) hs FN13 ⟨rfl, trivial⟩ (fun ok hA => eslaw38_Times.calls (x1 := x1) hxx7 (hA.get 0 rfl)) ?_
  rintro ⟨a8, n9, c10⟩ w hs
  refine WL.alloc hs ZV24 (fun g11 w hs => ?_)
  refine WL.storeAll (vs := [.slice a8 n9 c10]) hs 0 rfl TI24 rfl rfl rfl rfl (ones_of rfl) rfl (fun w hs => ?_)
  refine WL.nil ?_
  refine hK6 _ _ ?_
  refine W.seqK fun K12 hK12 => ?_
  refine W.region ?_
  refine WL.loadN (vs := [.slice a8 n9 c10]) hs 0 rfl TI24 rfl rfl rfl ?_
  obtain ⟨x13, hxx13, hf⟩ := bindE hf
  refine WL.callL (vs := [.agg ([.slice a8 n9 c10] : List Value).toArray]) hs FN22 ⟨rfl, trivial⟩ (history_Width.calls (x1 := (⟨x7.Operations⟩ : history_History)) hxx13 (V_agg (show t_history_History.R (fun _ => True) _ (⟨x7.Operations⟩ : history_History) [.slice a8 n9 c10] from (R_one (hs.ownT 1 rfl))) rfl)) ?_
  rintro _ w hs
  refine WL.assign (v := .int .i64 x13) rfl ?_
  refine WL.nil ?_
  refine hK12 _ _ ?_
  refine W.seqK fun K14 hK14 => ?_
  refine W.seqK fun K15 hK15 => ?_
  refine W.region ?_
  refine WL.move (v := .int .i64 x13) rfl ?_
  refine WL.loadN (vs := [.slice a8 n9 c10]) hs 0 rfl TI24 rfl rfl rfl ?_
  obtain ⟨x16, hxx16, hf⟩ := bindE hf
  refine WL.callL (vs := [.agg ([.slice a8 n9 c10] : List Value).toArray]) hs FN23 ⟨rfl, trivial⟩ (esref39_Width.calls (x1 := (⟨x7.Operations⟩ : history_History)) hxx16 (V_agg (show t_history_History.R (fun _ => True) _ (⟨x7.Operations⟩ : history_History) [.slice a8 n9 c10] from (R_one (hs.ownT 1 rfl))) rfl)) ?_
  rintro _ w hs
  refine WL.bin (v := .bool (x13 != x16)) rfl rfl (ib_neq _ _ _) ?_
  refine WL.nil ?_
  refine hK15 _ _ ?_
  rcases iteE hf with ⟨hc17, hf⟩ | ⟨hc17, hf⟩
  {
  refine W.cond_true (bool_tr rfl hc17) ?_
  refine W.seqK fun K18 hK18 => ?_
  refine W.region ?_
  refine WL.assign (v := .bool false) rfl ?_
  refine WL.nil ?_
  refine hK18 _ _ ?_
  refine W.ret ?_
  have hr := Option.some.inj hf; subst hr
  exact ⟨_, resOk_one rfl rfl, (), rfl, (hs.mask []).pick []⟩ }
  {
  refine W.cond_false (bool_tr rfl hc17) ?_
  refine W.skip ?_
  refine hK14 _ _ ?_
  refine W.seqK fun K19 hK19 => ?_
  refine W.region ?_
  refine WL.move (v := .int .i64 x4) rfl ?_
  obtain ⟨x20, hxx20, hf⟩ := bindE hf
  refine WL.call (vs := [.int .i64 x4, .int .i64 6]) hs FN14 ⟨rfl, ⟨rfl, trivial⟩⟩ (fun ok hA => eslaw00_Index.calls (x1 := x4) (x2 := 6) hxx20) ?_
  rintro _ w hs
  obtain ⟨x21, ex21, hf⟩ := letE hf
  refine WL.bin (v := .int .i64 x21) rfl rfl (ib_as ex21 (ib_add _ _ _)) ?_
  refine WL.assign (v := .int .i64 x21) rfl ?_
  refine WL.nil ?_
  refine hK19 _ _ ?_
  refine W.seqK fun K22 hK22 => ?_
  refine W.region ?_
  refine WL.loadN (vs := [.slice a8 n9 c10]) hs 0 rfl TI24 rfl rfl rfl ?_
  refine WL.move (v := .int .i64 x21) rfl ?_
  obtain rfl := hs.ownLen 1 rfl
  have hs := hs.freezeOwn 1 rfl
  have hs := hs.add (it := vl t_history_History (⟨x7.Operations⟩ : history_History) (.agg [.slice a8 (x7.Operations).length c10].toArray)) fun ok hA => V_agg ((R_one (hA.get 0 rfl))) rfl
  obtain ⟨x23, hxx23, hf⟩ := bindE hf
  refine WL.call (vs := [.agg ([.slice a8 (x7.Operations).length c10] : List Value).toArray, .int .i64 x21]) hs FN24 ⟨rfl, ⟨rfl, trivial⟩⟩ (fun ok hA => history_Of.calls (x1 := (⟨x7.Operations⟩ : history_History)) (x5 := x21) hxx23 (hA.get 0 rfl)) ?_
  rintro ⟨a24, n25, c26⟩ w hs
  refine WL.assign (v := .slice a24 n25 c26) rfl ?_
  refine WL.nil ?_
  refine hK22 _ _ ?_
  refine W.seqK fun K27 hK27 => ?_
  refine W.region ?_
  refine WL.build (vs := []) (cs := [.slice none 0 0]) trivial (bld PL24 rfl) ?_
  refine WL.alloc hs ZV24 (fun g28 w hs => ?_)
  refine WL.storeAll (vs := [.slice none 0 0]) hs 0 rfl TI24 rfl rfl rfl rfl (ones_of rfl) rfl (fun w hs => ?_)
  refine WL.nil ?_
  refine hK27 _ _ ?_
  refine W.seqK fun K29 hK29 => ?_
  have hs := hs.ownNil t_history_Operation 35
  have Jk35 : ∀ (x31 : List history_Operation) (a32 : Option Addr) (c33 : Nat) (n34 : Nat) (ρ : Env) (w : World), ρ 5 = .pointer (some ⟨g11, 0, none⟩) → ρ 7 = .int .i64 x21 → ρ 8 = .slice a24 n25 c26 → ρ 9 = .pointer (some ⟨g28, 0, none⟩) → St ok (bz w0) w [vl (tSlice t_history_Operation) x7.Operations (.slice a8 (x7.Operations).length c10)] [own t_history_Operation 35 (.slice a32 n34 c33) x31, blk g28 24 [.slice a32 n34 c33], own (tInt .i64) 3 (.slice a24 n25 c26) x23, blk g11 24 [.slice a8 (x7.Operations).length c10]] → eslaw38_HistoryWidth.j4 x7 x21 x23 x31 = some r → K29 ρ w := by
    intro x31 a32 c33 n34 ρ w h30_5 h30_7 h30_8 h30_9 hs hf
    refine hK29 _ _ ?_
    unfold eslaw38_HistoryWidth.j4 at hf
    refine W.seqK fun K36 hK36 => ?_
    refine W.region ?_
    refine WL.assign (v := .int .i64 0) rfl ?_
    refine WL.nil ?_
    refine hK36 _ _ ?_
    refine W.seqK fun K37 hK37 => ?_
    have Jk40 : ∀ (x39 : Int) (ρ : Env) (w : World), ρ 8 = .slice a24 n25 c26 → ρ 9 = .pointer (some ⟨g28, 0, none⟩) → ρ 12 = .int .i64 x39 → St ok (bz w0) w [] [own t_history_Operation 35 (.slice a32 n34 c33) x31, blk g28 24 [.slice a32 n34 c33], own (tInt .i64) 3 (.slice a24 n25 c26) x23] → eslaw38_HistoryWidth.j2 x23 x31 x39 = some r → K37 ρ w := by
      intro x39 ρ w h38_8 h38_9 h38_12 hs hf
      refine hK37 _ _ ?_
      unfold eslaw38_HistoryWidth.j2 at hf
      refine W.seqK fun K41 hK41 => ?_
      have Jk44 : ∀ (x43 : Bool) (ρ : Env) (w : World), ρ 4 = .bool x43 → St ok (bz w0) w [] [] → eslaw38_HistoryWidth.j1 x43 = some r → K41 ρ w := by
        intro x43 ρ w h42_4 hs hf
        refine hK41 _ _ ?_
        unfold eslaw38_HistoryWidth.j1 at hf
        refine W.ret ?_
        have hr := Option.some.inj hf; subst hr
        exact ⟨_, resOk_one rfl h42_4, (), rfl, (hs.mask []).pick []⟩
      refine W.region ?_
      refine WL.move (v := .int .i64 x39) h38_12 ?_
      refine WL.move (v := .slice a24 n25 c26) h38_8 ?_
      refine WL.len (v := .slice a24 n25 c26) rfl (len_own hs 2 rfl UN29) ?_
      refine WL.bin (v := .bool (x39 == (x23.length : Int))) rfl rfl (ib_eql _ _ _) ?_
      refine WL.move (v := .bool (x39 == (x23.length : Int))) rfl ?_
      rcases iteE hf with ⟨hc45, hf⟩ | ⟨hc45, hf⟩
      {
      refine WL.loadN (vs := [.slice a32 n34 c33]) hs 1 rfl TI24 h38_9 rfl rfl ?_ (hg := (wanted_of rfl rfl (bool_tr rfl hc45)).trans rfl)
      obtain ⟨x46, hxx46, hf⟩ := bindE hf
      refine WL.callL (vs := [.agg ([.slice a32 n34 c33] : List Value).toArray]) hs FN22 ⟨rfl, trivial⟩ (history_Width.calls (x1 := (⟨x31⟩ : history_History)) hxx46 (V_agg (show t_history_History.R (fun _ => True) _ (⟨x31⟩ : history_History) [.slice a32 n34 c33] from (R_one (hs.ownT 0 rfl))) rfl)) ?_ (hg := (wanted_of rfl rfl (bool_tr rfl hc45)).trans rfl)
      rintro _ w hs
      refine WL.bin (v := .bool (decide (x46 ≤ 1))) rfl rfl (ib_leq _ _ _) ?_ (hg := (wanted_of rfl rfl (bool_tr rfl hc45)).trans rfl)
      refine WL.pickT (v := .bool (decide (x46 ≤ 1))) (bool_tr rfl hc45) rfl ?_
      refine WL.move (v := .bool (decide (x46 ≤ 1))) rfl ?_
      rcases iteE hf with ⟨hc47, hf⟩ | ⟨hc47, hf⟩
      {
      obtain ⟨x48, hxx48, hf⟩ := bindE hf
      refine WL.call (vs := []) hs FN10 trivial (fun ok hA => eslaw38_awake.calls hxx48) ?_ (hg := (wanted_of rfl rfl (bool_tr rfl hc47)).trans rfl)
      rintro _ w hs
      refine WL.pickT (v := .bool x48) (bool_tr rfl hc47) rfl ?_
      refine WL.assign (v := .bool x48) rfl ?_
      refine WL.nil ?_
      exact Jk44 x48 _ _ rfl ((hs.mask []).pick []) hf }
      {
      refine WL.pass ((wanted_of rfl rfl (bool_tr rfl hc47)).trans rfl) rfl ?_
      refine WL.pickF (v := .bool false) (bool_tr rfl hc47) rfl ?_
      refine WL.assign (v := .bool false) rfl ?_
      refine WL.nil ?_
      exact Jk44 false _ _ rfl ((hs.mask []).pick []) hf } }
      {
      refine WL.pass ((wanted_of rfl rfl (bool_tr rfl hc45)).trans rfl) rfl ?_
      refine WL.pass ((wanted_of rfl rfl (bool_tr rfl hc45)).trans rfl) rfl ?_
      refine WL.pass ((wanted_of rfl rfl (bool_tr rfl hc45)).trans rfl) rfl ?_
      refine WL.pickF (v := .bool false) (bool_tr rfl hc45) rfl ?_
      refine WL.move (v := .bool false) rfl ?_
      refine WL.pass ((wanted_of rfl rfl rfl).trans rfl) rfl ?_
      refine WL.pickF (v := .bool false) rfl rfl ?_
      refine WL.assign (v := .bool false) rfl ?_
      refine WL.nil ?_
      exact Jk44 false _ _ rfl ((hs.mask []).pick []) hf }
    refine W.seqK fun K49 hK49 => ?_
    refine W.region ?_
    refine WL.assign (v := .int .i64 0) rfl ?_
    refine WL.nil ?_
    refine hK49 _ _ ?_
    refine W.block ?_
    obtain ⟨bs53, hbs53, hfs53⟩ := bindE hf
    refine W.loop hbs53 (fun s ρ w => match s with | (x51, x52) => ρ 5 = .pointer (some ⟨g11, 0, none⟩) ∧ ρ 7 = .int .i64 x21 ∧ ρ 8 = .slice a24 n25 c26 ∧ ρ 9 = .pointer (some ⟨g28, 0, none⟩) ∧ ρ 12 = .int .i64 x51 ∧ ρ 13 = .int .i64 x52 ∧ St ok (bz w0) w [vl (tSlice t_history_Operation) x7.Operations (.slice a8 (x7.Operations).length c10)] [own t_history_Operation 35 (.slice a32 n34 c33) x31, blk g28 24 [.slice a32 n34 c33], own (tInt .i64) 3 (.slice a24 n25 c26) x23, blk g11 24 [.slice a8 (x7.Operations).length c10]]) ⟨h30_5, h30_7, h30_8, h30_9, rfl, rfl, (hs.mask [true, true, true, true]).pick [0]⟩ ?_
    intro s ρ w os53 hI hf hbbs53
    obtain ⟨x51, x52⟩ := s
    obtain ⟨h50_5, h50_7, h50_8, h50_9, h50_12, h50_13, hs⟩ := hI
    unfold eslaw38_HistoryWidth.l1 at hf
    refine W.seqK fun K54 hK54 => ?_
    refine W.seqK fun K55 hK55 => ?_
    refine W.region ?_
    refine WL.move (v := .int .i64 x52) h50_13 ?_
    refine WL.fieldAddr (m := 0) h50_5 FA24_0 rfl ?_
    refine WL.load1 (v := .slice a8 (x7.Operations).length c10) hs 3 rfl TI22 rfl rfl ?_
    refine WL.len (v := .slice a8 (x7.Operations).length c10) rfl (len_slice UN22) ?_
    refine WL.bin (v := .bool (decide (x52 < ((x7.Operations).length : Int)))) rfl rfl (ib_lss _ _ _) ?_
    refine WL.nil ?_
    refine hK55 _ _ ?_
    rcases iteE hf with ⟨hc56, hf⟩ | ⟨hc56, hf⟩
    {
    refine W.cond_true (bool_tr rfl hc56) ?_
    refine W.skip ?_
    refine hK54 _ _ ?_
    refine W.seqK fun K57 hK57 => ?_
    have Jk60 : ∀ (x59 : Int) (ρ : Env) (w : World), ρ 5 = .pointer (some ⟨g11, 0, none⟩) → ρ 7 = .int .i64 x21 → ρ 8 = .slice a24 n25 c26 → ρ 9 = .pointer (some ⟨g28, 0, none⟩) → ρ 12 = .int .i64 x59 → ρ 13 = .int .i64 x52 → St ok (bz w0) w [vl (tSlice t_history_Operation) x7.Operations (.slice a8 (x7.Operations).length c10)] [own t_history_Operation 35 (.slice a32 n34 c33) x31, blk g28 24 [.slice a32 n34 c33], own (tInt .i64) 3 (.slice a24 n25 c26) x23, blk g11 24 [.slice a8 (x7.Operations).length c10]] → eslaw38_HistoryWidth.j3 x52 x59 = some os53 → K57 ρ w := by
      intro x59 ρ w h58_5 h58_7 h58_8 h58_9 h58_12 h58_13 hs hf
      refine hK57 _ _ ?_
      unfold eslaw38_HistoryWidth.j3 at hf
      refine W.region ?_
      refine WL.move (v := .int .i64 x52) h58_13 ?_
      obtain ⟨x61, ex61, hf⟩ := letE hf
      refine WL.bin (v := .int .i64 x61) rfl rfl (ib_as ex61 (ib_add _ _ _)) ?_
      refine WL.assign (v := .int .i64 x61) rfl ?_
      refine WL.nil ?_
      exact ⟨_, (Option.some.inj hf).symm, h58_5, h58_7, h58_8, h58_9, h58_12, rfl, (hs.mask [true, true, true, true]).pick [0]⟩
    refine W.block ?_
    refine W.seqK fun K62 hK62 => ?_
    refine W.region ?_
    refine WL.fieldAddr (m := 0) h50_5 FA24_0 rfl ?_
    refine WL.load1 (v := .slice a8 (x7.Operations).length c10) hs 3 rfl TI22 rfl rfl ?_
    refine WL.move (v := .int .i64 x52) h50_13 ?_
    obtain ⟨x63, hxx63, hf⟩ := bindE hf
    refine WL.indexAddr hs 0 rfl UN22 TI35 rfl rfl hxx63 (fun ad64 hs => ?_)
    refine WL.fieldAddrP (z := x63.Process) F_history_Operation_Process hs 0 rfl rfl FA35_0 rfl (fun ad65 hs => ?_)
    refine WL.loadP hs 0 rfl TI3 (.inr rfl) rfl (fun v66 hs => ?_)
    obtain rfl := hs.int 0 rfl
    refine WL.move (v := .int .i64 x21) h50_7 ?_
    refine WL.bin (v := .bool (x63.Process == x21)) rfl rfl (ib_eql _ _ _) ?_
    refine WL.nil ?_
    refine hK62 _ _ ?_
    rcases iteE hf with ⟨hc67, hf⟩ | ⟨hc67, hf⟩
    {
    refine W.cond_true (bool_tr rfl hc67) ?_
    refine W.region ?_
    refine WL.move (v := .int .i64 x51) h50_12 ?_
    obtain ⟨x68, ex68, hf⟩ := letE hf
    refine WL.bin (v := .int .i64 x68) rfl rfl (ib_as ex68 (ib_add _ _ _)) ?_
    refine WL.assign (v := .int .i64 x68) rfl ?_
    refine WL.nil ?_
    exact Jk60 x68 _ _ h50_5 h50_7 h50_8 h50_9 rfl h50_13 ((hs.mask [true, true, true, true]).pick [3]) hf }
    {
    refine W.cond_false (bool_tr rfl hc67) ?_
    refine W.skip ?_
    exact Jk60 x51 _ _ h50_5 h50_7 h50_8 h50_9 h50_12 h50_13 ((hs.mask [true, true, true, true]).pick [3]) hf } }
    {
    refine W.cond_false (bool_tr rfl hc56) ?_
    refine W.exit ?_
    have hr := Option.some.inj hf; subst hr
    have hr := hbbs53 _ rfl; subst hr
    have hf := hfs53
    exact Jk40 x51 _ _ h50_8 h50_9 h50_12 ((hs.mask [true, true, true]).pick []) hf }
  refine W.seqK fun K70 hK70 => ?_
  refine W.region ?_
  refine WL.assign (v := .int .i64 0) rfl ?_
  refine WL.nil ?_
  refine hK70 _ _ ?_
  refine W.block ?_
  obtain ⟨bs77, hbs77, hfs77⟩ := bindE hf
  refine W.loop hbs77 (fun s ρ w => match s with | (x72, x73) => ∃ (a74 : Option Addr), ∃ (c75 : Nat), ∃ (n76 : Nat), ρ 5 = .pointer (some ⟨g11, 0, none⟩) ∧ ρ 7 = .int .i64 x21 ∧ ρ 8 = .slice a24 n25 c26 ∧ ρ 9 = .pointer (some ⟨g28, 0, none⟩) ∧ ρ 10 = .int .i64 x72 ∧ St ok (bz w0) w [vl (tSlice t_history_Operation) x7.Operations (.slice a8 (x7.Operations).length c10)] [own t_history_Operation 35 (.slice a74 n76 c75) x73, blk g28 24 [.slice a74 n76 c75], own (tInt .i64) 3 (.slice a24 n25 c26) x23, blk g11 24 [.slice a8 (x7.Operations).length c10]]) ⟨none, 0, 0, rfl, rfl, rfl, rfl, rfl, (hs.mask [true, true, true, true]).pick [1]⟩ ?_
  intro s ρ w os77 hI hf hbbs77
  obtain ⟨x72, x73⟩ := s
  obtain ⟨a74, c75, n76, h71_5, h71_7, h71_8, h71_9, h71_10, hs⟩ := hI
  unfold eslaw38_HistoryWidth.l2 at hf
  refine W.seqK fun K78 hK78 => ?_
  refine W.seqK fun K79 hK79 => ?_
  refine W.region ?_
  refine WL.move (v := .int .i64 x72) h71_10 ?_
  refine WL.move (v := .slice a24 n25 c26) h71_8 ?_
  refine WL.len (v := .slice a24 n25 c26) rfl (len_own hs 2 rfl UN29) ?_
  refine WL.bin (v := .bool (decide (x72 < (x23.length : Int)))) rfl rfl (ib_lss _ _ _) ?_
  refine WL.nil ?_
  refine hK79 _ _ ?_
  rcases iteE hf with ⟨hc80, hf⟩ | ⟨hc80, hf⟩
  {
  refine W.cond_true (bool_tr rfl hc80) ?_
  refine W.skip ?_
  refine hK78 _ _ ?_
  refine W.seqK fun K81 hK81 => ?_
  have Jk87 : ∀ (x83 : List history_Operation) (a84 : Option Addr) (c85 : Nat) (n86 : Nat) (ρ : Env) (w : World), ρ 5 = .pointer (some ⟨g11, 0, none⟩) → ρ 7 = .int .i64 x21 → ρ 8 = .slice a24 n25 c26 → ρ 9 = .pointer (some ⟨g28, 0, none⟩) → ρ 10 = .int .i64 x72 → St ok (bz w0) w [vl (tSlice t_history_Operation) x7.Operations (.slice a8 (x7.Operations).length c10)] [own t_history_Operation 35 (.slice a84 n86 c85) x83, blk g28 24 [.slice a84 n86 c85], own (tInt .i64) 3 (.slice a24 n25 c26) x23, blk g11 24 [.slice a8 (x7.Operations).length c10]] → eslaw38_HistoryWidth.j5 x72 x83 = some os77 → K81 ρ w := by
    intro x83 a84 c85 n86 ρ w h82_5 h82_7 h82_8 h82_9 h82_10 hs hf
    refine hK81 _ _ ?_
    unfold eslaw38_HistoryWidth.j5 at hf
    refine W.region ?_
    refine WL.move (v := .int .i64 x72) h82_10 ?_
    obtain ⟨x88, ex88, hf⟩ := letE hf
    refine WL.bin (v := .int .i64 x88) rfl rfl (ib_as ex88 (ib_add _ _ _)) ?_
    refine WL.assign (v := .int .i64 x88) rfl ?_
    refine WL.nil ?_
    exact ⟨_, (Option.some.inj hf).symm, a84, c85, n86, h82_5, h82_7, h82_8, h82_9, rfl, (hs.mask [true, true, true, true]).pick [0]⟩
  refine W.block ?_
  refine W.seqK fun K89 hK89 => ?_
  refine W.seqK fun K90 hK90 => ?_
  have Jk93 : ∀ (x92 : Bool) (ρ : Env) (w : World), ρ 5 = .pointer (some ⟨g11, 0, none⟩) → ρ 7 = .int .i64 x21 → ρ 8 = .slice a24 n25 c26 → ρ 9 = .pointer (some ⟨g28, 0, none⟩) → ρ 10 = .int .i64 x72 → ρ 78 = .bool x92 → St ok (bz w0) w [vl (tSlice t_history_Operation) x7.Operations (.slice a8 (x7.Operations).length c10)] [own t_history_Operation 35 (.slice a74 n76 c75) x73, blk g28 24 [.slice a74 n76 c75], own (tInt .i64) 3 (.slice a24 n25 c26) x23, blk g11 24 [.slice a8 (x7.Operations).length c10]] → eslaw38_HistoryWidth.j6 x7 x23 x72 x73 x92 = some os77 → K90 ρ w := by
    intro x92 ρ w h91_5 h91_7 h91_8 h91_9 h91_10 h91_78 hs hf
    refine hK90 _ _ ?_
    unfold eslaw38_HistoryWidth.j6 at hf
    rcases iteE hf with ⟨hc94, hf⟩ | ⟨hc94, hf⟩
    {
    refine W.cond_true (bool_tr h91_78 hc94) ?_
    refine W.seqK fun K95 hK95 => ?_
    refine W.region ?_
    refine WL.assign (v := .bool false) rfl ?_
    refine WL.nil ?_
    refine hK95 _ _ ?_
    refine W.ret ?_
    have hr := Option.some.inj hf; subst hr
    have hr := hbbs77 _ rfl; subst hr
    have hf := hfs77
    have hr := Option.some.inj hf; subst hr
    exact ⟨_, resOk_one rfl rfl, (), rfl, (hs.mask []).pick []⟩ }
    {
    refine W.cond_false (bool_tr h91_78 hc94) ?_
    refine W.skip ?_
    refine hK89 _ _ ?_
    refine W.seqK fun K96 hK96 => ?_
    obtain ⟨x97, hxx97, hf⟩ := bindE hf
    obtain ⟨x100, hxx100, hf⟩ := bindE hf
    refine W.any (by kernel_rfl) 9 1 [true, true, true, true, true, true, true, true, true, false] rfl rfl (poAt [pv (.pointer (some ⟨g11, 0, none⟩)), pv (.slice a8 (x7.Operations).length c10), pv (.slice a24 n25 c26), pv (.int .i64 x72), po (fun ad => Go.Proofs.YtbbeobiampbddaaL.OwnAt 1 (.slice a24 n25 c26) x72 ad), pv (.int .i64 x97), pq (fun y : Addr => .pointer (some y)) (fun v => [pl t_history_Operation x100 (adOf v)]) (fun v => []), pq (fun y : List Value => .agg y.toArray) (fun v => [vl t_history_Operation x100 v]) (fun v => []), pq (fun y : Nat => .pointer (some ⟨y, 0, none⟩)) (fun v => []) (fun v => [blk (gOf v) 35 [.int .i64 0, .int .i64 0, .slice none 0 0, .slice none 0 0, .int .i64 0, .int .i64 0]])]) (Λ := [own t_history_Operation 35 (.slice a74 n76 c75) x73, blk g28 24 [.slice a74 n76 c75], own (tInt .i64) 3 (.slice a24 n25 c26) x23, blk g11 24 [.slice a8 (x7.Operations).length c10]]) hs (by kernel_rfl) (by kernel_rfl) (by kernel_rfl) ⟨⟨⟨⟨⟨⟨⟨⟨⟨trivial, ?_⟩, ?_⟩, ?_⟩, ?_⟩, ?_⟩, ?_⟩, ?_⟩, ?_⟩, ?_⟩ ?_
    {
    intro ρ w Γx Λx hs hu hp
    refine WL.fieldAddr (m := 0) ((hu 5 rfl).trans h91_5) FA24_0 rfl ?_
    exact WL.nil ⟨rfl, _, rfl, rfl, hs.cutG 0 0⟩ }
    {
    intro ρ w Γx Λx hs hu hp
    have e106 : ρ 79 = .pointer (some ⟨g11, 0, none⟩) := (hp 0 rfl).1
    refine WL.load1 (v := .slice a8 (x7.Operations).length c10) hs (Λx.length + 3) (getApp rfl) TI22 e106 rfl ?_
    exact WL.nil ⟨rfl, _, rfl, rfl, hs.cutG 0 0⟩ }
    {
    intro ρ w Γx Λx hs hu hp
    refine WL.move (v := .slice a24 n25 c26) ((hu 8 rfl).trans h91_8) ?_
    exact WL.nil ⟨rfl, _, rfl, rfl, hs.cutG 0 0⟩ }
    {
    intro ρ w Γx Λx hs hu hp
    refine WL.move (v := .int .i64 x72) ((hu 10 rfl).trans h91_10) ?_
    exact WL.nil ⟨rfl, _, rfl, rfl, hs.cutG 0 0⟩ }
    {
    intro ρ w Γx Λx hs hu hp
    have e107 : ρ 81 = .slice a24 n25 c26 := (hp 2 rfl).1
    have e108 : ρ 82 = .int .i64 x72 := (hp 3 rfl).1
    refine WL.indexAddrO hs (Λx.length + 2) (getApp rfl) UN29 TI3 e107 e108 hxx97 (fun ad98 hatad98 => ?_)
    exact WL.nil ⟨rfl, _, rfl, ⟨ad98, rfl, hatad98⟩, hs.cutG 0 0⟩ }
    {
    intro ρ w Γx Λx hs hu hp
    obtain ⟨ad110, e109, hatad110⟩ := (hp 4 rfl).1
    have e109 : ρ 83 = .pointer (some ad110) := e109
    refine WL.loadO hs (Λx.length + 2) (getApp rfl) TI3 (.inr rfl) hatad110 hxx97 e109 (fun v99 hs => ?_)
    obtain rfl := hs.int 0 rfl
    exact WL.nil ⟨rfl, _, rfl, rfl, hs.cutG 0 1⟩ }
    {
    intro ρ w Γx Λx hs hu hp
    have e111 : ρ 80 = .slice a8 (x7.Operations).length c10 := (hp 1 rfl).1
    have e112 : ρ 84 = .int .i64 x97 := (hp 5 rfl).1
    refine WL.indexAddr hs (Γx.length + 0) (getApp rfl) UN22 TI35 e111 e112 hxx100 (fun ad101 hs => ?_)
    have hs := hs.add (it := pl t_history_Operation x100 ad101) fun ok hA => hA.get 0 rfl
    exact WL.nil ⟨rfl, _, rfl, ⟨ad101, rfl⟩, hs.cutG 1 1⟩ }
    {
    intro ρ w Γx Λx hs hu hp
    obtain ⟨⟨ad113, e114r⟩, hm115⟩ := hp 6 rfl
    have e114 : ρ 85 = .pointer (some ad113) := e114r
    rw [e114r] at hm115
    have hs := hs.memo1 (it := pl t_history_Operation x100 ad113) (List.mem_append.2 (.inl (hm115 _ (List.mem_of_getElem? (i := 0) rfl))))
    refine WL.loadP hs 0 rfl TI35 (.inl rfl) e114 (fun v102 hs => ?_)
    obtain ⟨cs103, hl104, rfl⟩ := hs.aggv (n := 6) 0 rfl rfl rfl
    have hs := hs.add (it := vl t_history_Operation x100 (.agg cs103.toArray)) fun ok hA => hA.get 0 rfl
    exact WL.nil ⟨rfl, _, rfl, ⟨cs103, rfl⟩, hs.cutG 1 2⟩ }
    {
    intro ρ w Γx Λx hs hu hp
    refine WL.alloc hs ZV35 (fun g105 w hs => ?_)
    exact WL.nil ⟨rfl, _, rfl, ⟨g105, rfl⟩, hs.cutG 0 0⟩ }
    {
    intro ρ w hs hu116 hp
    obtain ⟨⟨⟨⟨⟨⟨⟨⟨⟨_, hp0_⟩, hp1_⟩, hp2_⟩, hp3_⟩, hp4_⟩, hp5_⟩, hp6_⟩, hp7_⟩, hp8_⟩ := hp
    have hs : St ok (bz w0) w [vl t_history_Operation x100 (ρ 86), pl t_history_Operation x100 (adOf (ρ 85)), vl (tSlice t_history_Operation) x7.Operations (.slice a8 (x7.Operations).length c10)] [blk (gOf ((ρ 11))) 35 [.int .i64 0, .int .i64 0, .slice none 0 0, .slice none 0 0, .int .i64 0, .int .i64 0], own t_history_Operation 35 (.slice a74 n76 c75) x73, blk g28 24 [.slice a74 n76 c75], own (tInt .i64) 3 (.slice a24 n25 c26) x23, blk g11 24 [.slice a8 (x7.Operations).length c10]] := hs
    obtain ⟨g117, e118⟩ := hp8_
    have e118 : ρ 11 = .pointer (some ⟨g117, 0, none⟩) := e118
    try rw [e118] at hs
    obtain ⟨cs119, e121⟩ := hp7_
    have e121 : ρ 86 = .agg cs119.toArray := e121
    try rw [e121] at hs
    obtain ⟨ad122, e123⟩ := hp6_
    have e123 : ρ 85 = .pointer (some ad122) := e123
    try rw [e123] at hs
    have e124 : ρ 84 = .int .i64 x97 := hp5_
    have e125 : ρ 82 = .int .i64 x72 := hp3_
    have e126 : ρ 81 = .slice a24 n25 c26 := hp2_
    have e127 : ρ 80 = .slice a8 (x7.Operations).length c10 := hp1_
    have e128 : ρ 79 = .pointer (some ⟨g11, 0, none⟩) := hp0_
    have hl120 := hs.agglen (n := 6) 0 rfl rfl rfl
    refine WA.step [9] (by kernel_rfl) (by simp) ⟨?_, trivial⟩
    refine WL.storeAll (vs := cs119) hs 0 rfl TI35 e118 e121 rfl hl120 (hs.ones 0 rfl rfl) rfl (fun w hs => ?_)
    refine WL.nil ⟨rfl, _, rfl, ?_⟩
    refine WA.done (by kernel_rfl) ?_
    refine hK96 _ _ ?_
    refine W.seqK fun K129 hK129 => ?_
    refine W.region ?_
    refine WL.fieldAddr (m := 5) e118 FA35_5 rfl ?_
    refine WL.loadF (z := x100.Return) F_history_Operation_Return hs 0 rfl 0 rfl rfl TI3 (.inr rfl) rfl rfl (fun v130 hs => ?_)
    obtain rfl := hs.int 0 rfl
    refine WL.bin (v := .bool (x100.Return != 0)) rfl rfl (ib_neq _ _ _) ?_
    refine WL.nil ?_
    refine hK129 _ _ ?_
    rcases iteE hf with ⟨hc131, hf⟩ | ⟨hc131, hf⟩
    {
    refine W.cond_true (bool_tr rfl hc131) ?_
    refine W.region ?_
    refine WL.fieldAddr (m := 0) ((hu116 9 rfl).trans h91_9) FA24_0 rfl ?_
    refine WL.load1 (v := .slice a74 n76 c75) hs 2 rfl TI22 rfl rfl ?_
    refine WL.loadAll hs 0 rfl TI35 e118 hl120 ?_
    refine WL.buildSlice (n := 1) (vs := [(0, .agg cs119.toArray)]) (cs := cs119) hs ⟨⟨rfl, rfl⟩, trivial⟩ (bls PS22 (by decide) (by simp [fillS, fillL, Value.cells, hl120])) (fun g132 w hs => ?_)
    obtain ⟨x133, hxx133, hf⟩ := bindE hf
    obtain ⟨hbx133, hex133⟩ := appE hxx133
    refine WL.append (ys := [x100]) (zs := x133) hs 2 rfl 0 rfl UN22 EI35 rfl rfl (fun ok hA => (Cells.one (T := t_history_Operation) (R_agg (hA.get 1 rfl) rfl))) hbx133 (by omega) hex133 (fun v134 w hs => ?_)
    obtain ⟨a135, n137, c136, rfl⟩ := hs.ownv3 2 rfl
    refine WL.fieldAddr (m := 0) ((hu116 9 rfl).trans h91_9) FA24_0 rfl ?_
    refine WL.storeAll (vs := [.slice a135 n137 c136]) hs 3 rfl TI22 rfl rfl rfl rfl (ones_of rfl) rfl (fun w hs => ?_)
    refine WL.nil ?_
    exact Jk87 x133 a135 c136 n137 _ _ ((hu116 5 rfl).trans h91_5) ((hu116 7 rfl).trans h91_7) ((hu116 8 rfl).trans h91_8) ((hu116 9 rfl).trans h91_9) ((hu116 10 rfl).trans h91_10) ((hs.mask [false, false, true, true, true, true]).pick [3]) hf }
    {
    refine W.cond_false (bool_tr rfl hc131) ?_
    refine W.skip ?_
    exact Jk87 x73 a74 c75 n76 _ _ ((hu116 5 rfl).trans h91_5) ((hu116 7 rfl).trans h91_7) ((hu116 8 rfl).trans h91_8) ((hu116 9 rfl).trans h91_9) ((hu116 10 rfl).trans h91_10) ((hs.mask [false, true, true, true, true]).pick [3]) hf } } }
  obtain ⟨x138, hxx138, hf⟩ := bindE hf
  rcases iteE hf with ⟨hc141, hf⟩ | ⟨hc141, hf⟩
  {
  refine W.any (by kernel_rfl) 44 0 [true, true, true, true, true, true, true, true, true, true, true, true, true, true, true, true, true, true, true, true, true, true, true, true, true, true, true, true, true, true, true, true, true, true, true, true, true, true, true, true, true, true, true, true] rfl rfl (poAt [pv (.slice a24 n25 c26), pv (.int .i64 x72), po (fun ad => Go.Proofs.YtbbeobiampbddaaL.OwnAt 1 (.slice a24 n25 c26) x72 ad), pv (.int .i64 x138), pv (.bool (decide (x138 < 0))), pv (.bool (decide (x138 < 0))), pv (undef), pv (undef), pv (undef), pv (undef), pv (undef), pv (undef), pv (undef), pv (undef), pv (.bool true), pv (.bool true), pv (undef), pv (undef), pv (undef), pv (undef), pv (undef), pv (undef), pv (undef), pv (undef), pv (undef), pv (undef), pv (undef), pv (.bool true), pv (.bool true), pv (undef), pv (undef), pv (undef), pv (undef), pv (undef), pv (undef), pv (undef), pv (undef), pv (undef), pv (undef), pv (undef), pv (undef), pv (undef), pv (undef), pv (.bool true)]) (Λ := [own t_history_Operation 35 (.slice a74 n76 c75) x73, blk g28 24 [.slice a74 n76 c75], own (tInt .i64) 3 (.slice a24 n25 c26) x23, blk g11 24 [.slice a8 (x7.Operations).length c10]]) hs (by kernel_rfl) (by kernel_rfl) (by kernel_rfl) ⟨⟨⟨⟨⟨⟨⟨⟨⟨⟨⟨⟨⟨⟨⟨⟨⟨⟨⟨⟨⟨⟨⟨⟨⟨⟨⟨⟨⟨⟨⟨⟨⟨⟨⟨⟨⟨⟨⟨⟨⟨⟨⟨⟨trivial, ?_⟩, ?_⟩, ?_⟩, ?_⟩, ?_⟩, ?_⟩, ?_⟩, ?_⟩, ?_⟩, ?_⟩, ?_⟩, ?_⟩, ?_⟩, ?_⟩, ?_⟩, ?_⟩, ?_⟩, ?_⟩, ?_⟩, ?_⟩, ?_⟩, ?_⟩, ?_⟩, ?_⟩, ?_⟩, ?_⟩, ?_⟩, ?_⟩, ?_⟩, ?_⟩, ?_⟩, ?_⟩, ?_⟩, ?_⟩, ?_⟩, ?_⟩, ?_⟩, ?_⟩, ?_⟩, ?_⟩, ?_⟩, ?_⟩, ?_⟩, ?_⟩ ?_
  {
  intro ρ w Γx Λx hs hu hp
  refine WL.move (v := .slice a24 n25 c26) ((hu 8 rfl).trans h71_8) ?_
  exact WL.nil ⟨rfl, _, rfl, rfl, hs.cutG 0 0⟩ }
  {
  intro ρ w Γx Λx hs hu hp
  refine WL.move (v := .int .i64 x72) ((hu 10 rfl).trans h71_10) ?_
  exact WL.nil ⟨rfl, _, rfl, rfl, hs.cutG 0 0⟩ }
  {
  intro ρ w Γx Λx hs hu hp
  have e142 : ρ 35 = .slice a24 n25 c26 := (hp 0 rfl).1
  have e143 : ρ 36 = .int .i64 x72 := (hp 1 rfl).1
  refine WL.indexAddrO hs (Λx.length + 2) (getApp rfl) UN29 TI3 e142 e143 hxx138 (fun ad139 hatad139 => ?_)
  exact WL.nil ⟨rfl, _, rfl, ⟨ad139, rfl, hatad139⟩, hs.cutG 0 0⟩ }
  {
  intro ρ w Γx Λx hs hu hp
  obtain ⟨ad145, e144, hatad145⟩ := (hp 2 rfl).1
  have e144 : ρ 37 = .pointer (some ad145) := e144
  refine WL.loadO hs (Λx.length + 2) (getApp rfl) TI3 (.inr rfl) hatad145 hxx138 e144 (fun v140 hs => ?_)
  obtain rfl := hs.int 0 rfl
  exact WL.nil ⟨rfl, _, rfl, rfl, hs.cutG 0 1⟩ }
  {
  intro ρ w Γx Λx hs hu hp
  have e146 : ρ 38 = .int .i64 x138 := (hp 3 rfl).1
  refine WL.bin (v := .bool (decide (x138 < 0))) e146 rfl (ib_lss _ _ _) ?_
  exact WL.nil ⟨rfl, _, rfl, rfl, hs.cutG 0 0⟩ }
  {
  intro ρ w Γx Λx hs hu hp
  have e147 : ρ 39 = .bool (decide (x138 < 0)) := (hp 4 rfl).1
  refine WL.move (v := .bool (decide (x138 < 0))) e147 ?_
  exact WL.nil ⟨rfl, _, rfl, rfl, hs.cutG 0 0⟩ }
  {
  intro ρ w Γx Λx hs hu hp
  have e148 : ρ 40 = .bool (decide (x138 < 0)) := (hp 5 rfl).1
  refine WL.pass ((wanted_of rfl rfl (bool_tr e148 hc141)).trans rfl) rfl ?_
  exact WL.nil ⟨rfl, _, rfl, rfl, hs.cutG 0 0⟩ }
  {
  intro ρ w Γx Λx hs hu hp
  have e149 : ρ 40 = .bool (decide (x138 < 0)) := (hp 5 rfl).1
  refine WL.pass ((wanted_of rfl rfl (bool_tr e149 hc141)).trans rfl) rfl ?_
  exact WL.nil ⟨rfl, _, rfl, rfl, hs.cutG 0 0⟩ }
  {
  intro ρ w Γx Λx hs hu hp
  have e150 : ρ 41 = undef := (hp 6 rfl).1
  have e151 : ρ 42 = undef := (hp 7 rfl).1
  have e152 : ρ 40 = .bool (decide (x138 < 0)) := (hp 5 rfl).1
  refine WL.pass ((wanted_of rfl rfl (bool_tr e152 hc141)).trans rfl) rfl ?_
  exact WL.nil ⟨rfl, _, rfl, rfl, hs.cutG 0 0⟩ }
  {
  intro ρ w Γx Λx hs hu hp
  have e153 : ρ 43 = undef := (hp 8 rfl).1
  have e154 : ρ 40 = .bool (decide (x138 < 0)) := (hp 5 rfl).1
  refine WL.pass ((wanted_of rfl rfl (bool_tr e154 hc141)).trans rfl) rfl ?_
  exact WL.nil ⟨rfl, _, rfl, rfl, hs.cutG 0 0⟩ }
  {
  intro ρ w Γx Λx hs hu hp
  have e155 : ρ 40 = .bool (decide (x138 < 0)) := (hp 5 rfl).1
  refine WL.pass ((wanted_of rfl rfl (bool_tr e155 hc141)).trans rfl) rfl ?_
  exact WL.nil ⟨rfl, _, rfl, rfl, hs.cutG 0 0⟩ }
  {
  intro ρ w Γx Λx hs hu hp
  have e156 : ρ 45 = undef := (hp 10 rfl).1
  have e157 : ρ 40 = .bool (decide (x138 < 0)) := (hp 5 rfl).1
  refine WL.pass ((wanted_of rfl rfl (bool_tr e157 hc141)).trans rfl) rfl ?_
  exact WL.nil ⟨rfl, _, rfl, rfl, hs.cutG 0 0⟩ }
  {
  intro ρ w Γx Λx hs hu hp
  have e158 : ρ 46 = undef := (hp 11 rfl).1
  have e159 : ρ 40 = .bool (decide (x138 < 0)) := (hp 5 rfl).1
  refine WL.pass ((wanted_of rfl rfl (bool_tr e159 hc141)).trans rfl) rfl ?_
  exact WL.nil ⟨rfl, _, rfl, rfl, hs.cutG 0 0⟩ }
  {
  intro ρ w Γx Λx hs hu hp
  have e160 : ρ 44 = undef := (hp 9 rfl).1
  have e161 : ρ 47 = undef := (hp 12 rfl).1
  have e162 : ρ 40 = .bool (decide (x138 < 0)) := (hp 5 rfl).1
  refine WL.pass ((wanted_of rfl rfl (bool_tr e162 hc141)).trans rfl) rfl ?_
  exact WL.nil ⟨rfl, _, rfl, rfl, hs.cutG 0 0⟩ }
  {
  intro ρ w Γx Λx hs hu hp
  have e163 : ρ 40 = .bool (decide (x138 < 0)) := (hp 5 rfl).1
  have e164 : ρ 48 = undef := (hp 13 rfl).1
  refine WL.pickT (v := .bool true) (bool_tr e163 hc141) rfl ?_
  exact WL.nil ⟨rfl, _, rfl, rfl, hs.cutG 0 0⟩ }
  {
  intro ρ w Γx Λx hs hu hp
  have e165 : ρ 49 = .bool true := (hp 14 rfl).1
  refine WL.move (v := .bool true) e165 ?_
  exact WL.nil ⟨rfl, _, rfl, rfl, hs.cutG 0 0⟩ }
  {
  intro ρ w Γx Λx hs hu hp
  have e166 : ρ 50 = .bool true := (hp 15 rfl).1
  refine WL.pass ((wanted_of rfl rfl e166).trans rfl) rfl ?_
  exact WL.nil ⟨rfl, _, rfl, rfl, hs.cutG 0 0⟩ }
  {
  intro ρ w Γx Λx hs hu hp
  have e167 : ρ 51 = undef := (hp 16 rfl).1
  have e168 : ρ 50 = .bool true := (hp 15 rfl).1
  refine WL.pass ((wanted_of rfl rfl e168).trans rfl) rfl ?_
  exact WL.nil ⟨rfl, _, rfl, rfl, hs.cutG 0 0⟩ }
  {
  intro ρ w Γx Λx hs hu hp
  have e169 : ρ 50 = .bool true := (hp 15 rfl).1
  refine WL.pass ((wanted_of rfl rfl e169).trans rfl) rfl ?_
  exact WL.nil ⟨rfl, _, rfl, rfl, hs.cutG 0 0⟩ }
  {
  intro ρ w Γx Λx hs hu hp
  have e170 : ρ 50 = .bool true := (hp 15 rfl).1
  refine WL.pass ((wanted_of rfl rfl e170).trans rfl) rfl ?_
  exact WL.nil ⟨rfl, _, rfl, rfl, hs.cutG 0 0⟩ }
  {
  intro ρ w Γx Λx hs hu hp
  have e171 : ρ 53 = undef := (hp 18 rfl).1
  have e172 : ρ 54 = undef := (hp 19 rfl).1
  have e173 : ρ 50 = .bool true := (hp 15 rfl).1
  refine WL.pass ((wanted_of rfl rfl e173).trans rfl) rfl ?_
  exact WL.nil ⟨rfl, _, rfl, rfl, hs.cutG 0 0⟩ }
  {
  intro ρ w Γx Λx hs hu hp
  have e174 : ρ 55 = undef := (hp 20 rfl).1
  have e175 : ρ 50 = .bool true := (hp 15 rfl).1
  refine WL.pass ((wanted_of rfl rfl e175).trans rfl) rfl ?_
  exact WL.nil ⟨rfl, _, rfl, rfl, hs.cutG 0 0⟩ }
  {
  intro ρ w Γx Λx hs hu hp
  have e176 : ρ 52 = undef := (hp 17 rfl).1
  have e177 : ρ 56 = undef := (hp 21 rfl).1
  have e178 : ρ 50 = .bool true := (hp 15 rfl).1
  refine WL.pass ((wanted_of rfl rfl e178).trans rfl) rfl ?_
  exact WL.nil ⟨rfl, _, rfl, rfl, hs.cutG 0 0⟩ }
  {
  intro ρ w Γx Λx hs hu hp
  have e179 : ρ 57 = undef := (hp 22 rfl).1
  have e180 : ρ 50 = .bool true := (hp 15 rfl).1
  refine WL.pass ((wanted_of rfl rfl e180).trans rfl) rfl ?_
  exact WL.nil ⟨rfl, _, rfl, rfl, hs.cutG 0 0⟩ }
  {
  intro ρ w Γx Λx hs hu hp
  have e181 : ρ 58 = undef := (hp 23 rfl).1
  have e182 : ρ 50 = .bool true := (hp 15 rfl).1
  refine WL.pass ((wanted_of rfl rfl e182).trans rfl) rfl ?_
  exact WL.nil ⟨rfl, _, rfl, rfl, hs.cutG 0 0⟩ }
  {
  intro ρ w Γx Λx hs hu hp
  have e183 : ρ 50 = .bool true := (hp 15 rfl).1
  refine WL.pass ((wanted_of rfl rfl e183).trans rfl) rfl ?_
  exact WL.nil ⟨rfl, _, rfl, rfl, hs.cutG 0 0⟩ }
  {
  intro ρ w Γx Λx hs hu hp
  have e184 : ρ 59 = undef := (hp 24 rfl).1
  have e185 : ρ 60 = undef := (hp 25 rfl).1
  have e186 : ρ 50 = .bool true := (hp 15 rfl).1
  refine WL.pass ((wanted_of rfl rfl e186).trans rfl) rfl ?_
  exact WL.nil ⟨rfl, _, rfl, rfl, hs.cutG 0 0⟩ }
  {
  intro ρ w Γx Λx hs hu hp
  have e187 : ρ 50 = .bool true := (hp 15 rfl).1
  have e188 : ρ 61 = undef := (hp 26 rfl).1
  refine WL.pickT (v := .bool true) e187 rfl ?_
  exact WL.nil ⟨rfl, _, rfl, rfl, hs.cutG 0 0⟩ }
  {
  intro ρ w Γx Λx hs hu hp
  have e189 : ρ 62 = .bool true := (hp 27 rfl).1
  refine WL.move (v := .bool true) e189 ?_
  exact WL.nil ⟨rfl, _, rfl, rfl, hs.cutG 0 0⟩ }
  {
  intro ρ w Γx Λx hs hu hp
  have e190 : ρ 63 = .bool true := (hp 28 rfl).1
  refine WL.pass ((wanted_of rfl rfl e190).trans rfl) rfl ?_
  exact WL.nil ⟨rfl, _, rfl, rfl, hs.cutG 0 0⟩ }
  {
  intro ρ w Γx Λx hs hu hp
  have e191 : ρ 64 = undef := (hp 29 rfl).1
  have e192 : ρ 63 = .bool true := (hp 28 rfl).1
  refine WL.pass ((wanted_of rfl rfl e192).trans rfl) rfl ?_
  exact WL.nil ⟨rfl, _, rfl, rfl, hs.cutG 0 0⟩ }
  {
  intro ρ w Γx Λx hs hu hp
  have e193 : ρ 65 = undef := (hp 30 rfl).1
  have e194 : ρ 63 = .bool true := (hp 28 rfl).1
  refine WL.pass ((wanted_of rfl rfl e194).trans rfl) rfl ?_
  exact WL.nil ⟨rfl, _, rfl, rfl, hs.cutG 0 0⟩ }
  {
  intro ρ w Γx Λx hs hu hp
  have e195 : ρ 66 = undef := (hp 31 rfl).1
  refine WL.pass (wanted_undef rfl rfl e195) rfl ?_
  exact WL.nil ⟨rfl, _, rfl, rfl, hs.cutG 0 0⟩ }
  {
  intro ρ w Γx Λx hs hu hp
  have e196 : ρ 66 = undef := (hp 31 rfl).1
  refine WL.pass (wanted_undef rfl rfl e196) rfl ?_
  exact WL.nil ⟨rfl, _, rfl, rfl, hs.cutG 0 0⟩ }
  {
  intro ρ w Γx Λx hs hu hp
  have e197 : ρ 67 = undef := (hp 32 rfl).1
  have e198 : ρ 68 = undef := (hp 33 rfl).1
  have e199 : ρ 66 = undef := (hp 31 rfl).1
  refine WL.pass (wanted_undef rfl rfl e199) rfl ?_
  exact WL.nil ⟨rfl, _, rfl, rfl, hs.cutG 0 0⟩ }
  {
  intro ρ w Γx Λx hs hu hp
  have e200 : ρ 69 = undef := (hp 34 rfl).1
  have e201 : ρ 66 = undef := (hp 31 rfl).1
  refine WL.pass (wanted_undef rfl rfl e201) rfl ?_
  exact WL.nil ⟨rfl, _, rfl, rfl, hs.cutG 0 0⟩ }
  {
  intro ρ w Γx Λx hs hu hp
  have e202 : ρ 66 = undef := (hp 31 rfl).1
  refine WL.pass (wanted_undef rfl rfl e202) rfl ?_
  exact WL.nil ⟨rfl, _, rfl, rfl, hs.cutG 0 0⟩ }
  {
  intro ρ w Γx Λx hs hu hp
  have e203 : ρ 66 = undef := (hp 31 rfl).1
  refine WL.pass (wanted_undef rfl rfl e203) rfl ?_
  exact WL.nil ⟨rfl, _, rfl, rfl, hs.cutG 0 0⟩ }
  {
  intro ρ w Γx Λx hs hu hp
  have e204 : ρ 72 = undef := (hp 37 rfl).1
  have e205 : ρ 66 = undef := (hp 31 rfl).1
  refine WL.pass (wanted_undef rfl rfl e205) rfl ?_
  exact WL.nil ⟨rfl, _, rfl, rfl, hs.cutG 0 0⟩ }
  {
  intro ρ w Γx Λx hs hu hp
  have e206 : ρ 71 = undef := (hp 36 rfl).1
  have e207 : ρ 73 = undef := (hp 38 rfl).1
  have e208 : ρ 66 = undef := (hp 31 rfl).1
  refine WL.pass (wanted_undef rfl rfl e208) rfl ?_
  exact WL.nil ⟨rfl, _, rfl, rfl, hs.cutG 0 0⟩ }
  {
  intro ρ w Γx Λx hs hu hp
  have e209 : ρ 74 = undef := (hp 39 rfl).1
  have e210 : ρ 66 = undef := (hp 31 rfl).1
  refine WL.pass (wanted_undef rfl rfl e210) rfl ?_
  exact WL.nil ⟨rfl, _, rfl, rfl, hs.cutG 0 0⟩ }
  {
  intro ρ w Γx Λx hs hu hp
  have e211 : ρ 70 = undef := (hp 35 rfl).1
  have e212 : ρ 75 = undef := (hp 40 rfl).1
  have e213 : ρ 66 = undef := (hp 31 rfl).1
  refine WL.pass (wanted_undef rfl rfl e213) rfl ?_
  exact WL.nil ⟨rfl, _, rfl, rfl, hs.cutG 0 0⟩ }
  {
  intro ρ w Γx Λx hs hu hp
  have e214 : ρ 66 = undef := (hp 31 rfl).1
  have e215 : ρ 76 = undef := (hp 41 rfl).1
  have e216 : ρ 63 = .bool true := (hp 28 rfl).1
  refine WL.pass ((wanted_of rfl rfl e216).trans rfl) rfl ?_
  exact WL.nil ⟨rfl, _, rfl, rfl, hs.cutG 0 0⟩ }
  {
  intro ρ w Γx Λx hs hu hp
  have e217 : ρ 63 = .bool true := (hp 28 rfl).1
  have e218 : ρ 77 = undef := (hp 42 rfl).1
  refine WL.pickT (v := .bool true) e217 rfl ?_
  exact WL.nil ⟨rfl, _, rfl, rfl, hs.cutG 0 0⟩ }
  {
  intro ρ w hs hu219 hp
  obtain ⟨⟨⟨⟨⟨⟨⟨⟨⟨⟨⟨⟨⟨⟨⟨⟨⟨⟨⟨⟨⟨⟨⟨⟨⟨⟨⟨⟨⟨⟨⟨⟨⟨⟨⟨⟨⟨⟨⟨⟨⟨⟨⟨⟨_, hp0_⟩, hp1_⟩, hp2_⟩, hp3_⟩, hp4_⟩, hp5_⟩, hp6_⟩, hp7_⟩, hp8_⟩, hp9_⟩, hp10_⟩, hp11_⟩, hp12_⟩, hp13_⟩, hp14_⟩, hp15_⟩, hp16_⟩, hp17_⟩, hp18_⟩, hp19_⟩, hp20_⟩, hp21_⟩, hp22_⟩, hp23_⟩, hp24_⟩, hp25_⟩, hp26_⟩, hp27_⟩, hp28_⟩, hp29_⟩, hp30_⟩, hp31_⟩, hp32_⟩, hp33_⟩, hp34_⟩, hp35_⟩, hp36_⟩, hp37_⟩, hp38_⟩, hp39_⟩, hp40_⟩, hp41_⟩, hp42_⟩, hp43_⟩ := hp
  have hs : St ok (bz w0) w [vl (tSlice t_history_Operation) x7.Operations (.slice a8 (x7.Operations).length c10)] [own t_history_Operation 35 (.slice a74 n76 c75) x73, blk g28 24 [.slice a74 n76 c75], own (tInt .i64) 3 (.slice a24 n25 c26) x23, blk g11 24 [.slice a8 (x7.Operations).length c10]] := hs
  have e220 : ρ 78 = .bool true := hp43_
  have e221 : ρ 77 = undef := hp42_
  have e222 : ρ 76 = undef := hp41_
  have e223 : ρ 75 = undef := hp40_
  have e224 : ρ 74 = undef := hp39_
  have e225 : ρ 73 = undef := hp38_
  have e226 : ρ 72 = undef := hp37_
  have e227 : ρ 71 = undef := hp36_
  have e228 : ρ 70 = undef := hp35_
  have e229 : ρ 69 = undef := hp34_
  have e230 : ρ 68 = undef := hp33_
  have e231 : ρ 67 = undef := hp32_
  have e232 : ρ 66 = undef := hp31_
  have e233 : ρ 65 = undef := hp30_
  have e234 : ρ 64 = undef := hp29_
  have e235 : ρ 63 = .bool true := hp28_
  have e236 : ρ 62 = .bool true := hp27_
  have e237 : ρ 61 = undef := hp26_
  have e238 : ρ 60 = undef := hp25_
  have e239 : ρ 59 = undef := hp24_
  have e240 : ρ 58 = undef := hp23_
  have e241 : ρ 57 = undef := hp22_
  have e242 : ρ 56 = undef := hp21_
  have e243 : ρ 55 = undef := hp20_
  have e244 : ρ 54 = undef := hp19_
  have e245 : ρ 53 = undef := hp18_
  have e246 : ρ 52 = undef := hp17_
  have e247 : ρ 51 = undef := hp16_
  have e248 : ρ 50 = .bool true := hp15_
  have e249 : ρ 49 = .bool true := hp14_
  have e250 : ρ 48 = undef := hp13_
  have e251 : ρ 47 = undef := hp12_
  have e252 : ρ 46 = undef := hp11_
  have e253 : ρ 45 = undef := hp10_
  have e254 : ρ 44 = undef := hp9_
  have e255 : ρ 43 = undef := hp8_
  have e256 : ρ 42 = undef := hp7_
  have e257 : ρ 41 = undef := hp6_
  have e258 : ρ 40 = .bool (decide (x138 < 0)) := hp5_
  have e259 : ρ 39 = .bool (decide (x138 < 0)) := hp4_
  have e260 : ρ 38 = .int .i64 x138 := hp3_
  have e261 : ρ 36 = .int .i64 x72 := hp1_
  have e262 : ρ 35 = .slice a24 n25 c26 := hp0_
  refine WA.done (by kernel_rfl) ?_
  exact Jk93 true _ _ ((hu219 5 rfl).trans h71_5) ((hu219 7 rfl).trans h71_7) ((hu219 8 rfl).trans h71_8) ((hu219 9 rfl).trans h71_9) ((hu219 10 rfl).trans h71_10) e220 ((hs.mask [true, true, true, true]).pick [0]) hf } }
  {
  obtain ⟨x263, hxx263, hf⟩ := bindE hf
  rcases iteE hf with ⟨hc266, hf⟩ | ⟨hc266, hf⟩
  {
  refine W.any (by kernel_rfl) 44 0 [true, true, true, true, true, true, true, true, true, true, true, true, true, true, true, true, true, true, true, true, true, true, true, true, true, true, true, true, true, true, true, true, true, true, true, true, true, true, true, true, true, true, true, true] rfl rfl (poAt [pv (.slice a24 n25 c26), pv (.int .i64 x72), po (fun ad => Go.Proofs.YtbbeobiampbddaaL.OwnAt 1 (.slice a24 n25 c26) x72 ad), pv (.int .i64 x138), pv (.bool (decide (x138 < 0))), pv (.bool (decide (x138 < 0))), pv (.slice a24 n25 c26), pv (.int .i64 x72), po (fun ad => Go.Proofs.YtbbeobiampbddaaL.OwnAt 1 (.slice a24 n25 c26) x72 ad), pv (.int .i64 x263), pv (.pointer (some ⟨g11, 0, none⟩)), pv (.slice a8 (x7.Operations).length c10), pv (.int .i64 ((x7.Operations).length : Int)), pv (.bool (decide (((x7.Operations).length : Int) ≤ x263))), pv (.bool (decide (((x7.Operations).length : Int) ≤ x263))), pv (.bool (decide (((x7.Operations).length : Int) ≤ x263))), pv (undef), pv (undef), pv (undef), pv (undef), pv (undef), pv (undef), pv (undef), pv (undef), pv (undef), pv (undef), pv (undef), pv (.bool true), pv (.bool true), pv (undef), pv (undef), pv (undef), pv (undef), pv (undef), pv (undef), pv (undef), pv (undef), pv (undef), pv (undef), pv (undef), pv (undef), pv (undef), pv (undef), pv (.bool true)]) (Λ := [own t_history_Operation 35 (.slice a74 n76 c75) x73, blk g28 24 [.slice a74 n76 c75], own (tInt .i64) 3 (.slice a24 n25 c26) x23, blk g11 24 [.slice a8 (x7.Operations).length c10]]) hs (by kernel_rfl) (by kernel_rfl) (by kernel_rfl) ⟨⟨⟨⟨⟨⟨⟨⟨⟨⟨⟨⟨⟨⟨⟨⟨⟨⟨⟨⟨⟨⟨⟨⟨⟨⟨⟨⟨⟨⟨⟨⟨⟨⟨⟨⟨⟨⟨⟨⟨⟨⟨⟨⟨trivial, ?_⟩, ?_⟩, ?_⟩, ?_⟩, ?_⟩, ?_⟩, ?_⟩, ?_⟩, ?_⟩, ?_⟩, ?_⟩, ?_⟩, ?_⟩, ?_⟩, ?_⟩, ?_⟩, ?_⟩, ?_⟩, ?_⟩, ?_⟩, ?_⟩, ?_⟩, ?_⟩, ?_⟩, ?_⟩, ?_⟩, ?_⟩, ?_⟩, ?_⟩, ?_⟩, ?_⟩, ?_⟩, ?_⟩, ?_⟩, ?_⟩, ?_⟩, ?_⟩, ?_⟩, ?_⟩, ?_⟩, ?_⟩, ?_⟩, ?_⟩, ?_⟩ ?_
  {
  intro ρ w Γx Λx hs hu hp
  refine WL.move (v := .slice a24 n25 c26) ((hu 8 rfl).trans h71_8) ?_
  exact WL.nil ⟨rfl, _, rfl, rfl, hs.cutG 0 0⟩ }
  {
  intro ρ w Γx Λx hs hu hp
  refine WL.move (v := .int .i64 x72) ((hu 10 rfl).trans h71_10) ?_
  exact WL.nil ⟨rfl, _, rfl, rfl, hs.cutG 0 0⟩ }
  {
  intro ρ w Γx Λx hs hu hp
  have e267 : ρ 35 = .slice a24 n25 c26 := (hp 0 rfl).1
  have e268 : ρ 36 = .int .i64 x72 := (hp 1 rfl).1
  refine WL.indexAddrO hs (Λx.length + 2) (getApp rfl) UN29 TI3 e267 e268 hxx138 (fun ad139 hatad139 => ?_)
  exact WL.nil ⟨rfl, _, rfl, ⟨ad139, rfl, hatad139⟩, hs.cutG 0 0⟩ }
  {
  intro ρ w Γx Λx hs hu hp
  obtain ⟨ad270, e269, hatad270⟩ := (hp 2 rfl).1
  have e269 : ρ 37 = .pointer (some ad270) := e269
  refine WL.loadO hs (Λx.length + 2) (getApp rfl) TI3 (.inr rfl) hatad270 hxx138 e269 (fun v140 hs => ?_)
  obtain rfl := hs.int 0 rfl
  exact WL.nil ⟨rfl, _, rfl, rfl, hs.cutG 0 1⟩ }
  {
  intro ρ w Γx Λx hs hu hp
  have e271 : ρ 38 = .int .i64 x138 := (hp 3 rfl).1
  refine WL.bin (v := .bool (decide (x138 < 0))) e271 rfl (ib_lss _ _ _) ?_
  exact WL.nil ⟨rfl, _, rfl, rfl, hs.cutG 0 0⟩ }
  {
  intro ρ w Γx Λx hs hu hp
  have e272 : ρ 39 = .bool (decide (x138 < 0)) := (hp 4 rfl).1
  refine WL.move (v := .bool (decide (x138 < 0))) e272 ?_
  exact WL.nil ⟨rfl, _, rfl, rfl, hs.cutG 0 0⟩ }
  {
  intro ρ w Γx Λx hs hu hp
  have e273 : ρ 40 = .bool (decide (x138 < 0)) := (hp 5 rfl).1
  refine WL.move (v := .slice a24 n25 c26) ((hu 8 rfl).trans h71_8) ?_ (hg := (wanted_of rfl rfl (bool_tr e273 hc141)).trans rfl)
  exact WL.nil ⟨rfl, _, rfl, rfl, hs.cutG 0 0⟩ }
  {
  intro ρ w Γx Λx hs hu hp
  have e274 : ρ 40 = .bool (decide (x138 < 0)) := (hp 5 rfl).1
  refine WL.move (v := .int .i64 x72) ((hu 10 rfl).trans h71_10) ?_ (hg := (wanted_of rfl rfl (bool_tr e274 hc141)).trans rfl)
  exact WL.nil ⟨rfl, _, rfl, rfl, hs.cutG 0 0⟩ }
  {
  intro ρ w Γx Λx hs hu hp
  have e275 : ρ 41 = .slice a24 n25 c26 := (hp 6 rfl).1
  have e276 : ρ 42 = .int .i64 x72 := (hp 7 rfl).1
  have e277 : ρ 40 = .bool (decide (x138 < 0)) := (hp 5 rfl).1
  refine WL.indexAddrO hs (Λx.length + 2) (getApp rfl) UN29 TI3 e275 e276 hxx263 (fun ad264 hatad264 => ?_) (hg := (wanted_of rfl rfl (bool_tr e277 hc141)).trans rfl)
  exact WL.nil ⟨rfl, _, rfl, ⟨ad264, rfl, hatad264⟩, hs.cutG 0 0⟩ }
  {
  intro ρ w Γx Λx hs hu hp
  obtain ⟨ad279, e278, hatad279⟩ := (hp 8 rfl).1
  have e278 : ρ 43 = .pointer (some ad279) := e278
  have e280 : ρ 40 = .bool (decide (x138 < 0)) := (hp 5 rfl).1
  refine WL.loadO hs (Λx.length + 2) (getApp rfl) TI3 (.inr rfl) hatad279 hxx263 e278 (fun v265 hs => ?_) (hg := (wanted_of rfl rfl (bool_tr e280 hc141)).trans rfl)
  obtain rfl := hs.int 0 rfl
  exact WL.nil ⟨rfl, _, rfl, rfl, hs.cutG 0 1⟩ }
  {
  intro ρ w Γx Λx hs hu hp
  have e281 : ρ 40 = .bool (decide (x138 < 0)) := (hp 5 rfl).1
  refine WL.fieldAddr (m := 0) ((hu 5 rfl).trans h71_5) FA24_0 rfl ?_ (hg := (wanted_of rfl rfl (bool_tr e281 hc141)).trans rfl)
  exact WL.nil ⟨rfl, _, rfl, rfl, hs.cutG 0 0⟩ }
  {
  intro ρ w Γx Λx hs hu hp
  have e282 : ρ 45 = .pointer (some ⟨g11, 0, none⟩) := (hp 10 rfl).1
  have e283 : ρ 40 = .bool (decide (x138 < 0)) := (hp 5 rfl).1
  refine WL.load1 (v := .slice a8 (x7.Operations).length c10) hs (Λx.length + 3) (getApp rfl) TI22 e282 rfl ?_ (hg := (wanted_of rfl rfl (bool_tr e283 hc141)).trans rfl)
  exact WL.nil ⟨rfl, _, rfl, rfl, hs.cutG 0 0⟩ }
  {
  intro ρ w Γx Λx hs hu hp
  have e284 : ρ 46 = .slice a8 (x7.Operations).length c10 := (hp 11 rfl).1
  have e285 : ρ 40 = .bool (decide (x138 < 0)) := (hp 5 rfl).1
  refine WL.len (v := .slice a8 (x7.Operations).length c10) e284 (len_slice UN22) ?_ (hg := (wanted_of rfl rfl (bool_tr e285 hc141)).trans rfl)
  exact WL.nil ⟨rfl, _, rfl, rfl, hs.cutG 0 0⟩ }
  {
  intro ρ w Γx Λx hs hu hp
  have e286 : ρ 44 = .int .i64 x263 := (hp 9 rfl).1
  have e287 : ρ 47 = .int .i64 ((x7.Operations).length : Int) := (hp 12 rfl).1
  have e288 : ρ 40 = .bool (decide (x138 < 0)) := (hp 5 rfl).1
  refine WL.bin (v := .bool (decide (((x7.Operations).length : Int) ≤ x263))) e286 e287 (ib_geq _ _ _) ?_ (hg := (wanted_of rfl rfl (bool_tr e288 hc141)).trans rfl)
  exact WL.nil ⟨rfl, _, rfl, rfl, hs.cutG 0 0⟩ }
  {
  intro ρ w Γx Λx hs hu hp
  have e289 : ρ 40 = .bool (decide (x138 < 0)) := (hp 5 rfl).1
  have e290 : ρ 48 = .bool (decide (((x7.Operations).length : Int) ≤ x263)) := (hp 13 rfl).1
  refine WL.pickF (v := .bool (decide (((x7.Operations).length : Int) ≤ x263))) (bool_tr e289 hc141) e290 ?_
  exact WL.nil ⟨rfl, _, rfl, rfl, hs.cutG 0 0⟩ }
  {
  intro ρ w Γx Λx hs hu hp
  have e291 : ρ 49 = .bool (decide (((x7.Operations).length : Int) ≤ x263)) := (hp 14 rfl).1
  refine WL.move (v := .bool (decide (((x7.Operations).length : Int) ≤ x263))) e291 ?_
  exact WL.nil ⟨rfl, _, rfl, rfl, hs.cutG 0 0⟩ }
  {
  intro ρ w Γx Λx hs hu hp
  have e292 : ρ 50 = .bool (decide (((x7.Operations).length : Int) ≤ x263)) := (hp 15 rfl).1
  refine WL.pass ((wanted_of rfl rfl (bool_tr e292 hc266)).trans rfl) rfl ?_
  exact WL.nil ⟨rfl, _, rfl, rfl, hs.cutG 0 0⟩ }
  {
  intro ρ w Γx Λx hs hu hp
  have e293 : ρ 51 = undef := (hp 16 rfl).1
  have e294 : ρ 50 = .bool (decide (((x7.Operations).length : Int) ≤ x263)) := (hp 15 rfl).1
  refine WL.pass ((wanted_of rfl rfl (bool_tr e294 hc266)).trans rfl) rfl ?_
  exact WL.nil ⟨rfl, _, rfl, rfl, hs.cutG 0 0⟩ }
  {
  intro ρ w Γx Λx hs hu hp
  have e295 : ρ 50 = .bool (decide (((x7.Operations).length : Int) ≤ x263)) := (hp 15 rfl).1
  refine WL.pass ((wanted_of rfl rfl (bool_tr e295 hc266)).trans rfl) rfl ?_
  exact WL.nil ⟨rfl, _, rfl, rfl, hs.cutG 0 0⟩ }
  {
  intro ρ w Γx Λx hs hu hp
  have e296 : ρ 50 = .bool (decide (((x7.Operations).length : Int) ≤ x263)) := (hp 15 rfl).1
  refine WL.pass ((wanted_of rfl rfl (bool_tr e296 hc266)).trans rfl) rfl ?_
  exact WL.nil ⟨rfl, _, rfl, rfl, hs.cutG 0 0⟩ }
  {
  intro ρ w Γx Λx hs hu hp
  have e297 : ρ 53 = undef := (hp 18 rfl).1
  have e298 : ρ 54 = undef := (hp 19 rfl).1
  have e299 : ρ 50 = .bool (decide (((x7.Operations).length : Int) ≤ x263)) := (hp 15 rfl).1
  refine WL.pass ((wanted_of rfl rfl (bool_tr e299 hc266)).trans rfl) rfl ?_
  exact WL.nil ⟨rfl, _, rfl, rfl, hs.cutG 0 0⟩ }
  {
  intro ρ w Γx Λx hs hu hp
  have e300 : ρ 55 = undef := (hp 20 rfl).1
  have e301 : ρ 50 = .bool (decide (((x7.Operations).length : Int) ≤ x263)) := (hp 15 rfl).1
  refine WL.pass ((wanted_of rfl rfl (bool_tr e301 hc266)).trans rfl) rfl ?_
  exact WL.nil ⟨rfl, _, rfl, rfl, hs.cutG 0 0⟩ }
  {
  intro ρ w Γx Λx hs hu hp
  have e302 : ρ 52 = undef := (hp 17 rfl).1
  have e303 : ρ 56 = undef := (hp 21 rfl).1
  have e304 : ρ 50 = .bool (decide (((x7.Operations).length : Int) ≤ x263)) := (hp 15 rfl).1
  refine WL.pass ((wanted_of rfl rfl (bool_tr e304 hc266)).trans rfl) rfl ?_
  exact WL.nil ⟨rfl, _, rfl, rfl, hs.cutG 0 0⟩ }
  {
  intro ρ w Γx Λx hs hu hp
  have e305 : ρ 57 = undef := (hp 22 rfl).1
  have e306 : ρ 50 = .bool (decide (((x7.Operations).length : Int) ≤ x263)) := (hp 15 rfl).1
  refine WL.pass ((wanted_of rfl rfl (bool_tr e306 hc266)).trans rfl) rfl ?_
  exact WL.nil ⟨rfl, _, rfl, rfl, hs.cutG 0 0⟩ }
  {
  intro ρ w Γx Λx hs hu hp
  have e307 : ρ 58 = undef := (hp 23 rfl).1
  have e308 : ρ 50 = .bool (decide (((x7.Operations).length : Int) ≤ x263)) := (hp 15 rfl).1
  refine WL.pass ((wanted_of rfl rfl (bool_tr e308 hc266)).trans rfl) rfl ?_
  exact WL.nil ⟨rfl, _, rfl, rfl, hs.cutG 0 0⟩ }
  {
  intro ρ w Γx Λx hs hu hp
  have e309 : ρ 50 = .bool (decide (((x7.Operations).length : Int) ≤ x263)) := (hp 15 rfl).1
  refine WL.pass ((wanted_of rfl rfl (bool_tr e309 hc266)).trans rfl) rfl ?_
  exact WL.nil ⟨rfl, _, rfl, rfl, hs.cutG 0 0⟩ }
  {
  intro ρ w Γx Λx hs hu hp
  have e310 : ρ 59 = undef := (hp 24 rfl).1
  have e311 : ρ 60 = undef := (hp 25 rfl).1
  have e312 : ρ 50 = .bool (decide (((x7.Operations).length : Int) ≤ x263)) := (hp 15 rfl).1
  refine WL.pass ((wanted_of rfl rfl (bool_tr e312 hc266)).trans rfl) rfl ?_
  exact WL.nil ⟨rfl, _, rfl, rfl, hs.cutG 0 0⟩ }
  {
  intro ρ w Γx Λx hs hu hp
  have e313 : ρ 50 = .bool (decide (((x7.Operations).length : Int) ≤ x263)) := (hp 15 rfl).1
  have e314 : ρ 61 = undef := (hp 26 rfl).1
  refine WL.pickT (v := .bool true) (bool_tr e313 hc266) rfl ?_
  exact WL.nil ⟨rfl, _, rfl, rfl, hs.cutG 0 0⟩ }
  {
  intro ρ w Γx Λx hs hu hp
  have e315 : ρ 62 = .bool true := (hp 27 rfl).1
  refine WL.move (v := .bool true) e315 ?_
  exact WL.nil ⟨rfl, _, rfl, rfl, hs.cutG 0 0⟩ }
  {
  intro ρ w Γx Λx hs hu hp
  have e316 : ρ 63 = .bool true := (hp 28 rfl).1
  refine WL.pass ((wanted_of rfl rfl e316).trans rfl) rfl ?_
  exact WL.nil ⟨rfl, _, rfl, rfl, hs.cutG 0 0⟩ }
  {
  intro ρ w Γx Λx hs hu hp
  have e317 : ρ 64 = undef := (hp 29 rfl).1
  have e318 : ρ 63 = .bool true := (hp 28 rfl).1
  refine WL.pass ((wanted_of rfl rfl e318).trans rfl) rfl ?_
  exact WL.nil ⟨rfl, _, rfl, rfl, hs.cutG 0 0⟩ }
  {
  intro ρ w Γx Λx hs hu hp
  have e319 : ρ 65 = undef := (hp 30 rfl).1
  have e320 : ρ 63 = .bool true := (hp 28 rfl).1
  refine WL.pass ((wanted_of rfl rfl e320).trans rfl) rfl ?_
  exact WL.nil ⟨rfl, _, rfl, rfl, hs.cutG 0 0⟩ }
  {
  intro ρ w Γx Λx hs hu hp
  have e321 : ρ 66 = undef := (hp 31 rfl).1
  refine WL.pass (wanted_undef rfl rfl e321) rfl ?_
  exact WL.nil ⟨rfl, _, rfl, rfl, hs.cutG 0 0⟩ }
  {
  intro ρ w Γx Λx hs hu hp
  have e322 : ρ 66 = undef := (hp 31 rfl).1
  refine WL.pass (wanted_undef rfl rfl e322) rfl ?_
  exact WL.nil ⟨rfl, _, rfl, rfl, hs.cutG 0 0⟩ }
  {
  intro ρ w Γx Λx hs hu hp
  have e323 : ρ 67 = undef := (hp 32 rfl).1
  have e324 : ρ 68 = undef := (hp 33 rfl).1
  have e325 : ρ 66 = undef := (hp 31 rfl).1
  refine WL.pass (wanted_undef rfl rfl e325) rfl ?_
  exact WL.nil ⟨rfl, _, rfl, rfl, hs.cutG 0 0⟩ }
  {
  intro ρ w Γx Λx hs hu hp
  have e326 : ρ 69 = undef := (hp 34 rfl).1
  have e327 : ρ 66 = undef := (hp 31 rfl).1
  refine WL.pass (wanted_undef rfl rfl e327) rfl ?_
  exact WL.nil ⟨rfl, _, rfl, rfl, hs.cutG 0 0⟩ }
  {
  intro ρ w Γx Λx hs hu hp
  have e328 : ρ 66 = undef := (hp 31 rfl).1
  refine WL.pass (wanted_undef rfl rfl e328) rfl ?_
  exact WL.nil ⟨rfl, _, rfl, rfl, hs.cutG 0 0⟩ }
  {
  intro ρ w Γx Λx hs hu hp
  have e329 : ρ 66 = undef := (hp 31 rfl).1
  refine WL.pass (wanted_undef rfl rfl e329) rfl ?_
  exact WL.nil ⟨rfl, _, rfl, rfl, hs.cutG 0 0⟩ }
  {
  intro ρ w Γx Λx hs hu hp
  have e330 : ρ 72 = undef := (hp 37 rfl).1
  have e331 : ρ 66 = undef := (hp 31 rfl).1
  refine WL.pass (wanted_undef rfl rfl e331) rfl ?_
  exact WL.nil ⟨rfl, _, rfl, rfl, hs.cutG 0 0⟩ }
  {
  intro ρ w Γx Λx hs hu hp
  have e332 : ρ 71 = undef := (hp 36 rfl).1
  have e333 : ρ 73 = undef := (hp 38 rfl).1
  have e334 : ρ 66 = undef := (hp 31 rfl).1
  refine WL.pass (wanted_undef rfl rfl e334) rfl ?_
  exact WL.nil ⟨rfl, _, rfl, rfl, hs.cutG 0 0⟩ }
  {
  intro ρ w Γx Λx hs hu hp
  have e335 : ρ 74 = undef := (hp 39 rfl).1
  have e336 : ρ 66 = undef := (hp 31 rfl).1
  refine WL.pass (wanted_undef rfl rfl e336) rfl ?_
  exact WL.nil ⟨rfl, _, rfl, rfl, hs.cutG 0 0⟩ }
  {
  intro ρ w Γx Λx hs hu hp
  have e337 : ρ 70 = undef := (hp 35 rfl).1
  have e338 : ρ 75 = undef := (hp 40 rfl).1
  have e339 : ρ 66 = undef := (hp 31 rfl).1
  refine WL.pass (wanted_undef rfl rfl e339) rfl ?_
  exact WL.nil ⟨rfl, _, rfl, rfl, hs.cutG 0 0⟩ }
  {
  intro ρ w Γx Λx hs hu hp
  have e340 : ρ 66 = undef := (hp 31 rfl).1
  have e341 : ρ 76 = undef := (hp 41 rfl).1
  have e342 : ρ 63 = .bool true := (hp 28 rfl).1
  refine WL.pass ((wanted_of rfl rfl e342).trans rfl) rfl ?_
  exact WL.nil ⟨rfl, _, rfl, rfl, hs.cutG 0 0⟩ }
  {
  intro ρ w Γx Λx hs hu hp
  have e343 : ρ 63 = .bool true := (hp 28 rfl).1
  have e344 : ρ 77 = undef := (hp 42 rfl).1
  refine WL.pickT (v := .bool true) e343 rfl ?_
  exact WL.nil ⟨rfl, _, rfl, rfl, hs.cutG 0 0⟩ }
  {
  intro ρ w hs hu345 hp
  obtain ⟨⟨⟨⟨⟨⟨⟨⟨⟨⟨⟨⟨⟨⟨⟨⟨⟨⟨⟨⟨⟨⟨⟨⟨⟨⟨⟨⟨⟨⟨⟨⟨⟨⟨⟨⟨⟨⟨⟨⟨⟨⟨⟨⟨_, hp0_⟩, hp1_⟩, hp2_⟩, hp3_⟩, hp4_⟩, hp5_⟩, hp6_⟩, hp7_⟩, hp8_⟩, hp9_⟩, hp10_⟩, hp11_⟩, hp12_⟩, hp13_⟩, hp14_⟩, hp15_⟩, hp16_⟩, hp17_⟩, hp18_⟩, hp19_⟩, hp20_⟩, hp21_⟩, hp22_⟩, hp23_⟩, hp24_⟩, hp25_⟩, hp26_⟩, hp27_⟩, hp28_⟩, hp29_⟩, hp30_⟩, hp31_⟩, hp32_⟩, hp33_⟩, hp34_⟩, hp35_⟩, hp36_⟩, hp37_⟩, hp38_⟩, hp39_⟩, hp40_⟩, hp41_⟩, hp42_⟩, hp43_⟩ := hp
  have hs : St ok (bz w0) w [vl (tSlice t_history_Operation) x7.Operations (.slice a8 (x7.Operations).length c10)] [own t_history_Operation 35 (.slice a74 n76 c75) x73, blk g28 24 [.slice a74 n76 c75], own (tInt .i64) 3 (.slice a24 n25 c26) x23, blk g11 24 [.slice a8 (x7.Operations).length c10]] := hs
  have e346 : ρ 78 = .bool true := hp43_
  have e347 : ρ 77 = undef := hp42_
  have e348 : ρ 76 = undef := hp41_
  have e349 : ρ 75 = undef := hp40_
  have e350 : ρ 74 = undef := hp39_
  have e351 : ρ 73 = undef := hp38_
  have e352 : ρ 72 = undef := hp37_
  have e353 : ρ 71 = undef := hp36_
  have e354 : ρ 70 = undef := hp35_
  have e355 : ρ 69 = undef := hp34_
  have e356 : ρ 68 = undef := hp33_
  have e357 : ρ 67 = undef := hp32_
  have e358 : ρ 66 = undef := hp31_
  have e359 : ρ 65 = undef := hp30_
  have e360 : ρ 64 = undef := hp29_
  have e361 : ρ 63 = .bool true := hp28_
  have e362 : ρ 62 = .bool true := hp27_
  have e363 : ρ 61 = undef := hp26_
  have e364 : ρ 60 = undef := hp25_
  have e365 : ρ 59 = undef := hp24_
  have e366 : ρ 58 = undef := hp23_
  have e367 : ρ 57 = undef := hp22_
  have e368 : ρ 56 = undef := hp21_
  have e369 : ρ 55 = undef := hp20_
  have e370 : ρ 54 = undef := hp19_
  have e371 : ρ 53 = undef := hp18_
  have e372 : ρ 52 = undef := hp17_
  have e373 : ρ 51 = undef := hp16_
  have e374 : ρ 50 = .bool (decide (((x7.Operations).length : Int) ≤ x263)) := hp15_
  have e375 : ρ 49 = .bool (decide (((x7.Operations).length : Int) ≤ x263)) := hp14_
  have e376 : ρ 48 = .bool (decide (((x7.Operations).length : Int) ≤ x263)) := hp13_
  have e377 : ρ 47 = .int .i64 ((x7.Operations).length : Int) := hp12_
  have e378 : ρ 46 = .slice a8 (x7.Operations).length c10 := hp11_
  have e379 : ρ 45 = .pointer (some ⟨g11, 0, none⟩) := hp10_
  have e380 : ρ 44 = .int .i64 x263 := hp9_
  have e381 : ρ 42 = .int .i64 x72 := hp7_
  have e382 : ρ 41 = .slice a24 n25 c26 := hp6_
  have e383 : ρ 40 = .bool (decide (x138 < 0)) := hp5_
  have e384 : ρ 39 = .bool (decide (x138 < 0)) := hp4_
  have e385 : ρ 38 = .int .i64 x138 := hp3_
  have e386 : ρ 36 = .int .i64 x72 := hp1_
  have e387 : ρ 35 = .slice a24 n25 c26 := hp0_
  refine WA.done (by kernel_rfl) ?_
  exact Jk93 true _ _ ((hu345 5 rfl).trans h71_5) ((hu345 7 rfl).trans h71_7) ((hu345 8 rfl).trans h71_8) ((hu345 9 rfl).trans h71_9) ((hu345 10 rfl).trans h71_10) e346 ((hs.mask [true, true, true, true]).pick [0]) hf } }
  {
  obtain ⟨x388, hxx388, hf⟩ := bindE hf
  obtain ⟨x391, hxx391, hf⟩ := bindE hf
  rcases iteE hf with ⟨hc395, hf⟩ | ⟨hc395, hf⟩
  {
  refine W.any (by kernel_rfl) 44 0 [true, true, true, true, true, true, true, true, true, true, true, true, true, true, true, true, true, true, true, true, true, true, true, true, true, true, true, true, true, true, true, true, true, true, true, true, true, true, true, true, true, true, true, true] rfl rfl (poAt [pv (.slice a24 n25 c26), pv (.int .i64 x72), po (fun ad => Go.Proofs.YtbbeobiampbddaaL.OwnAt 1 (.slice a24 n25 c26) x72 ad), pv (.int .i64 x138), pv (.bool (decide (x138 < 0))), pv (.bool (decide (x138 < 0))), pv (.slice a24 n25 c26), pv (.int .i64 x72), po (fun ad => Go.Proofs.YtbbeobiampbddaaL.OwnAt 1 (.slice a24 n25 c26) x72 ad), pv (.int .i64 x263), pv (.pointer (some ⟨g11, 0, none⟩)), pv (.slice a8 (x7.Operations).length c10), pv (.int .i64 ((x7.Operations).length : Int)), pv (.bool (decide (((x7.Operations).length : Int) ≤ x263))), pv (.bool (decide (((x7.Operations).length : Int) ≤ x263))), pv (.bool (decide (((x7.Operations).length : Int) ≤ x263))), pv (.pointer (some ⟨g11, 0, none⟩)), pv (.slice a8 (x7.Operations).length c10), pv (.slice a24 n25 c26), pv (.int .i64 x72), po (fun ad => Go.Proofs.YtbbeobiampbddaaL.OwnAt 1 (.slice a24 n25 c26) x72 ad), pv (.int .i64 x388), pq (fun y : Addr => .pointer (some y)) (fun v => [pl t_history_Operation x391 (adOf v)]) (fun v => []), pq (fun y : Addr => .pointer (some y)) (fun v => [pl (tInt .i64) x391.Process (adOf v)]) (fun v => []), pv (.int .i64 x391.Process), pv (.int .i64 x21), pv (.bool (x391.Process != x21)), pv (.bool (x391.Process != x21)), pv (.bool (x391.Process != x21)), pv (undef), pv (undef), pv (undef), pv (undef), pv (undef), pv (undef), pv (undef), pv (undef), pv (undef), pv (undef), pv (undef), pv (undef), pv (undef), pv (undef), pv (.bool true)]) (Λ := [own t_history_Operation 35 (.slice a74 n76 c75) x73, blk g28 24 [.slice a74 n76 c75], own (tInt .i64) 3 (.slice a24 n25 c26) x23, blk g11 24 [.slice a8 (x7.Operations).length c10]]) hs (by kernel_rfl) (by kernel_rfl) (by kernel_rfl) ⟨⟨⟨⟨⟨⟨⟨⟨⟨⟨⟨⟨⟨⟨⟨⟨⟨⟨⟨⟨⟨⟨⟨⟨⟨⟨⟨⟨⟨⟨⟨⟨⟨⟨⟨⟨⟨⟨⟨⟨⟨⟨⟨⟨trivial, ?_⟩, ?_⟩, ?_⟩, ?_⟩, ?_⟩, ?_⟩, ?_⟩, ?_⟩, ?_⟩, ?_⟩, ?_⟩, ?_⟩, ?_⟩, ?_⟩, ?_⟩, ?_⟩, ?_⟩, ?_⟩, ?_⟩, ?_⟩, ?_⟩, ?_⟩, ?_⟩, ?_⟩, ?_⟩, ?_⟩, ?_⟩, ?_⟩, ?_⟩, ?_⟩, ?_⟩, ?_⟩, ?_⟩, ?_⟩, ?_⟩, ?_⟩, ?_⟩, ?_⟩, ?_⟩, ?_⟩, ?_⟩, ?_⟩, ?_⟩, ?_⟩ ?_
  {
  intro ρ w Γx Λx hs hu hp
  refine WL.move (v := .slice a24 n25 c26) ((hu 8 rfl).trans h71_8) ?_
  exact WL.nil ⟨rfl, _, rfl, rfl, hs.cutG 0 0⟩ }
  {
  intro ρ w Γx Λx hs hu hp
  refine WL.move (v := .int .i64 x72) ((hu 10 rfl).trans h71_10) ?_
  exact WL.nil ⟨rfl, _, rfl, rfl, hs.cutG 0 0⟩ }
  {
  intro ρ w Γx Λx hs hu hp
  have e396 : ρ 35 = .slice a24 n25 c26 := (hp 0 rfl).1
  have e397 : ρ 36 = .int .i64 x72 := (hp 1 rfl).1
  refine WL.indexAddrO hs (Λx.length + 2) (getApp rfl) UN29 TI3 e396 e397 hxx138 (fun ad139 hatad139 => ?_)
  exact WL.nil ⟨rfl, _, rfl, ⟨ad139, rfl, hatad139⟩, hs.cutG 0 0⟩ }
  {
  intro ρ w Γx Λx hs hu hp
  obtain ⟨ad399, e398, hatad399⟩ := (hp 2 rfl).1
  have e398 : ρ 37 = .pointer (some ad399) := e398
  refine WL.loadO hs (Λx.length + 2) (getApp rfl) TI3 (.inr rfl) hatad399 hxx138 e398 (fun v140 hs => ?_)
  obtain rfl := hs.int 0 rfl
  exact WL.nil ⟨rfl, _, rfl, rfl, hs.cutG 0 1⟩ }
  {
  intro ρ w Γx Λx hs hu hp
  have e400 : ρ 38 = .int .i64 x138 := (hp 3 rfl).1
  refine WL.bin (v := .bool (decide (x138 < 0))) e400 rfl (ib_lss _ _ _) ?_
  exact WL.nil ⟨rfl, _, rfl, rfl, hs.cutG 0 0⟩ }
  {
  intro ρ w Γx Λx hs hu hp
  have e401 : ρ 39 = .bool (decide (x138 < 0)) := (hp 4 rfl).1
  refine WL.move (v := .bool (decide (x138 < 0))) e401 ?_
  exact WL.nil ⟨rfl, _, rfl, rfl, hs.cutG 0 0⟩ }
  {
  intro ρ w Γx Λx hs hu hp
  have e402 : ρ 40 = .bool (decide (x138 < 0)) := (hp 5 rfl).1
  refine WL.move (v := .slice a24 n25 c26) ((hu 8 rfl).trans h71_8) ?_ (hg := (wanted_of rfl rfl (bool_tr e402 hc141)).trans rfl)
  exact WL.nil ⟨rfl, _, rfl, rfl, hs.cutG 0 0⟩ }
  {
  intro ρ w Γx Λx hs hu hp
  have e403 : ρ 40 = .bool (decide (x138 < 0)) := (hp 5 rfl).1
  refine WL.move (v := .int .i64 x72) ((hu 10 rfl).trans h71_10) ?_ (hg := (wanted_of rfl rfl (bool_tr e403 hc141)).trans rfl)
  exact WL.nil ⟨rfl, _, rfl, rfl, hs.cutG 0 0⟩ }
  {
  intro ρ w Γx Λx hs hu hp
  have e404 : ρ 41 = .slice a24 n25 c26 := (hp 6 rfl).1
  have e405 : ρ 42 = .int .i64 x72 := (hp 7 rfl).1
  have e406 : ρ 40 = .bool (decide (x138 < 0)) := (hp 5 rfl).1
  refine WL.indexAddrO hs (Λx.length + 2) (getApp rfl) UN29 TI3 e404 e405 hxx263 (fun ad264 hatad264 => ?_) (hg := (wanted_of rfl rfl (bool_tr e406 hc141)).trans rfl)
  exact WL.nil ⟨rfl, _, rfl, ⟨ad264, rfl, hatad264⟩, hs.cutG 0 0⟩ }
  {
  intro ρ w Γx Λx hs hu hp
  obtain ⟨ad408, e407, hatad408⟩ := (hp 8 rfl).1
  have e407 : ρ 43 = .pointer (some ad408) := e407
  have e409 : ρ 40 = .bool (decide (x138 < 0)) := (hp 5 rfl).1
  refine WL.loadO hs (Λx.length + 2) (getApp rfl) TI3 (.inr rfl) hatad408 hxx263 e407 (fun v265 hs => ?_) (hg := (wanted_of rfl rfl (bool_tr e409 hc141)).trans rfl)
  obtain rfl := hs.int 0 rfl
  exact WL.nil ⟨rfl, _, rfl, rfl, hs.cutG 0 1⟩ }
  {
  intro ρ w Γx Λx hs hu hp
  have e410 : ρ 40 = .bool (decide (x138 < 0)) := (hp 5 rfl).1
  refine WL.fieldAddr (m := 0) ((hu 5 rfl).trans h71_5) FA24_0 rfl ?_ (hg := (wanted_of rfl rfl (bool_tr e410 hc141)).trans rfl)
  exact WL.nil ⟨rfl, _, rfl, rfl, hs.cutG 0 0⟩ }
  {
  intro ρ w Γx Λx hs hu hp
  have e411 : ρ 45 = .pointer (some ⟨g11, 0, none⟩) := (hp 10 rfl).1
  have e412 : ρ 40 = .bool (decide (x138 < 0)) := (hp 5 rfl).1
  refine WL.load1 (v := .slice a8 (x7.Operations).length c10) hs (Λx.length + 3) (getApp rfl) TI22 e411 rfl ?_ (hg := (wanted_of rfl rfl (bool_tr e412 hc141)).trans rfl)
  exact WL.nil ⟨rfl, _, rfl, rfl, hs.cutG 0 0⟩ }
  {
  intro ρ w Γx Λx hs hu hp
  have e413 : ρ 46 = .slice a8 (x7.Operations).length c10 := (hp 11 rfl).1
  have e414 : ρ 40 = .bool (decide (x138 < 0)) := (hp 5 rfl).1
  refine WL.len (v := .slice a8 (x7.Operations).length c10) e413 (len_slice UN22) ?_ (hg := (wanted_of rfl rfl (bool_tr e414 hc141)).trans rfl)
  exact WL.nil ⟨rfl, _, rfl, rfl, hs.cutG 0 0⟩ }
  {
  intro ρ w Γx Λx hs hu hp
  have e415 : ρ 44 = .int .i64 x263 := (hp 9 rfl).1
  have e416 : ρ 47 = .int .i64 ((x7.Operations).length : Int) := (hp 12 rfl).1
  have e417 : ρ 40 = .bool (decide (x138 < 0)) := (hp 5 rfl).1
  refine WL.bin (v := .bool (decide (((x7.Operations).length : Int) ≤ x263))) e415 e416 (ib_geq _ _ _) ?_ (hg := (wanted_of rfl rfl (bool_tr e417 hc141)).trans rfl)
  exact WL.nil ⟨rfl, _, rfl, rfl, hs.cutG 0 0⟩ }
  {
  intro ρ w Γx Λx hs hu hp
  have e418 : ρ 40 = .bool (decide (x138 < 0)) := (hp 5 rfl).1
  have e419 : ρ 48 = .bool (decide (((x7.Operations).length : Int) ≤ x263)) := (hp 13 rfl).1
  refine WL.pickF (v := .bool (decide (((x7.Operations).length : Int) ≤ x263))) (bool_tr e418 hc141) e419 ?_
  exact WL.nil ⟨rfl, _, rfl, rfl, hs.cutG 0 0⟩ }
  {
  intro ρ w Γx Λx hs hu hp
  have e420 : ρ 49 = .bool (decide (((x7.Operations).length : Int) ≤ x263)) := (hp 14 rfl).1
  refine WL.move (v := .bool (decide (((x7.Operations).length : Int) ≤ x263))) e420 ?_
  exact WL.nil ⟨rfl, _, rfl, rfl, hs.cutG 0 0⟩ }
  {
  intro ρ w Γx Λx hs hu hp
  have e421 : ρ 50 = .bool (decide (((x7.Operations).length : Int) ≤ x263)) := (hp 15 rfl).1
  refine WL.fieldAddr (m := 0) ((hu 5 rfl).trans h71_5) FA24_0 rfl ?_ (hg := (wanted_of rfl rfl (bool_tr e421 hc266)).trans rfl)
  exact WL.nil ⟨rfl, _, rfl, rfl, hs.cutG 0 0⟩ }
  {
  intro ρ w Γx Λx hs hu hp
  have e422 : ρ 51 = .pointer (some ⟨g11, 0, none⟩) := (hp 16 rfl).1
  have e423 : ρ 50 = .bool (decide (((x7.Operations).length : Int) ≤ x263)) := (hp 15 rfl).1
  refine WL.load1 (v := .slice a8 (x7.Operations).length c10) hs (Λx.length + 3) (getApp rfl) TI22 e422 rfl ?_ (hg := (wanted_of rfl rfl (bool_tr e423 hc266)).trans rfl)
  exact WL.nil ⟨rfl, _, rfl, rfl, hs.cutG 0 0⟩ }
  {
  intro ρ w Γx Λx hs hu hp
  have e424 : ρ 50 = .bool (decide (((x7.Operations).length : Int) ≤ x263)) := (hp 15 rfl).1
  refine WL.move (v := .slice a24 n25 c26) ((hu 8 rfl).trans h71_8) ?_ (hg := (wanted_of rfl rfl (bool_tr e424 hc266)).trans rfl)
  exact WL.nil ⟨rfl, _, rfl, rfl, hs.cutG 0 0⟩ }
  {
  intro ρ w Γx Λx hs hu hp
  have e425 : ρ 50 = .bool (decide (((x7.Operations).length : Int) ≤ x263)) := (hp 15 rfl).1
  refine WL.move (v := .int .i64 x72) ((hu 10 rfl).trans h71_10) ?_ (hg := (wanted_of rfl rfl (bool_tr e425 hc266)).trans rfl)
  exact WL.nil ⟨rfl, _, rfl, rfl, hs.cutG 0 0⟩ }
  {
  intro ρ w Γx Λx hs hu hp
  have e426 : ρ 53 = .slice a24 n25 c26 := (hp 18 rfl).1
  have e427 : ρ 54 = .int .i64 x72 := (hp 19 rfl).1
  have e428 : ρ 50 = .bool (decide (((x7.Operations).length : Int) ≤ x263)) := (hp 15 rfl).1
  refine WL.indexAddrO hs (Λx.length + 2) (getApp rfl) UN29 TI3 e426 e427 hxx388 (fun ad389 hatad389 => ?_) (hg := (wanted_of rfl rfl (bool_tr e428 hc266)).trans rfl)
  exact WL.nil ⟨rfl, _, rfl, ⟨ad389, rfl, hatad389⟩, hs.cutG 0 0⟩ }
  {
  intro ρ w Γx Λx hs hu hp
  obtain ⟨ad430, e429, hatad430⟩ := (hp 20 rfl).1
  have e429 : ρ 55 = .pointer (some ad430) := e429
  have e431 : ρ 50 = .bool (decide (((x7.Operations).length : Int) ≤ x263)) := (hp 15 rfl).1
  refine WL.loadO hs (Λx.length + 2) (getApp rfl) TI3 (.inr rfl) hatad430 hxx388 e429 (fun v390 hs => ?_) (hg := (wanted_of rfl rfl (bool_tr e431 hc266)).trans rfl)
  obtain rfl := hs.int 0 rfl
  exact WL.nil ⟨rfl, _, rfl, rfl, hs.cutG 0 1⟩ }
  {
  intro ρ w Γx Λx hs hu hp
  have e432 : ρ 52 = .slice a8 (x7.Operations).length c10 := (hp 17 rfl).1
  have e433 : ρ 56 = .int .i64 x388 := (hp 21 rfl).1
  have e434 : ρ 50 = .bool (decide (((x7.Operations).length : Int) ≤ x263)) := (hp 15 rfl).1
  refine WL.indexAddr hs (Γx.length + 0) (getApp rfl) UN22 TI35 e432 e433 hxx391 (fun ad392 hs => ?_) (hg := (wanted_of rfl rfl (bool_tr e434 hc266)).trans rfl)
  have hs := hs.add (it := pl t_history_Operation x391 ad392) fun ok hA => hA.get 0 rfl
  exact WL.nil ⟨rfl, _, rfl, ⟨ad392, rfl⟩, hs.cutG 1 1⟩ }
  {
  intro ρ w Γx Λx hs hu hp
  obtain ⟨⟨ad435, e436r⟩, hm437⟩ := hp 22 rfl
  have e436 : ρ 57 = .pointer (some ad435) := e436r
  rw [e436r] at hm437
  have hs := hs.memo1 (it := pl t_history_Operation x391 ad435) (List.mem_append.2 (.inl (hm437 _ (List.mem_of_getElem? (i := 0) rfl))))
  have e438 : ρ 50 = .bool (decide (((x7.Operations).length : Int) ≤ x263)) := (hp 15 rfl).1
  refine WL.fieldAddrP (z := x391.Process) F_history_Operation_Process hs 0 rfl e436 FA35_0 rfl (fun ad393 hs => ?_) (hg := (wanted_of rfl rfl (bool_tr e438 hc266)).trans rfl)
  have hs := hs.add (it := pl (tInt .i64) x391.Process ad393) fun ok hA => hA.get 0 rfl
  exact WL.nil ⟨rfl, _, rfl, ⟨ad393, rfl⟩, hs.cutG 1 2⟩ }
  {
  intro ρ w Γx Λx hs hu hp
  obtain ⟨⟨ad439, e440r⟩, hm441⟩ := hp 23 rfl
  have e440 : ρ 58 = .pointer (some ad439) := e440r
  rw [e440r] at hm441
  have hs := hs.memo1 (it := pl (tInt .i64) x391.Process ad439) (List.mem_append.2 (.inl (hm441 _ (List.mem_of_getElem? (i := 0) rfl))))
  have e442 : ρ 50 = .bool (decide (((x7.Operations).length : Int) ≤ x263)) := (hp 15 rfl).1
  refine WL.loadP hs 0 rfl TI3 (.inr rfl) e440 (fun v394 hs => ?_) (hg := (wanted_of rfl rfl (bool_tr e442 hc266)).trans rfl)
  obtain rfl := hs.int 0 rfl
  exact WL.nil ⟨rfl, _, rfl, rfl, hs.cutG 0 2⟩ }
  {
  intro ρ w Γx Λx hs hu hp
  have e443 : ρ 50 = .bool (decide (((x7.Operations).length : Int) ≤ x263)) := (hp 15 rfl).1
  refine WL.move (v := .int .i64 x21) ((hu 7 rfl).trans h71_7) ?_ (hg := (wanted_of rfl rfl (bool_tr e443 hc266)).trans rfl)
  exact WL.nil ⟨rfl, _, rfl, rfl, hs.cutG 0 0⟩ }
  {
  intro ρ w Γx Λx hs hu hp
  have e444 : ρ 59 = .int .i64 x391.Process := (hp 24 rfl).1
  have e445 : ρ 60 = .int .i64 x21 := (hp 25 rfl).1
  have e446 : ρ 50 = .bool (decide (((x7.Operations).length : Int) ≤ x263)) := (hp 15 rfl).1
  refine WL.bin (v := .bool (x391.Process != x21)) e444 e445 (ib_neq _ _ _) ?_ (hg := (wanted_of rfl rfl (bool_tr e446 hc266)).trans rfl)
  exact WL.nil ⟨rfl, _, rfl, rfl, hs.cutG 0 0⟩ }
  {
  intro ρ w Γx Λx hs hu hp
  have e447 : ρ 50 = .bool (decide (((x7.Operations).length : Int) ≤ x263)) := (hp 15 rfl).1
  have e448 : ρ 61 = .bool (x391.Process != x21) := (hp 26 rfl).1
  refine WL.pickF (v := .bool (x391.Process != x21)) (bool_tr e447 hc266) e448 ?_
  exact WL.nil ⟨rfl, _, rfl, rfl, hs.cutG 0 0⟩ }
  {
  intro ρ w Γx Λx hs hu hp
  have e449 : ρ 62 = .bool (x391.Process != x21) := (hp 27 rfl).1
  refine WL.move (v := .bool (x391.Process != x21)) e449 ?_
  exact WL.nil ⟨rfl, _, rfl, rfl, hs.cutG 0 0⟩ }
  {
  intro ρ w Γx Λx hs hu hp
  have e450 : ρ 63 = .bool (x391.Process != x21) := (hp 28 rfl).1
  refine WL.pass ((wanted_of rfl rfl (bool_tr e450 hc395)).trans rfl) rfl ?_
  exact WL.nil ⟨rfl, _, rfl, rfl, hs.cutG 0 0⟩ }
  {
  intro ρ w Γx Λx hs hu hp
  have e451 : ρ 64 = undef := (hp 29 rfl).1
  have e452 : ρ 63 = .bool (x391.Process != x21) := (hp 28 rfl).1
  refine WL.pass ((wanted_of rfl rfl (bool_tr e452 hc395)).trans rfl) rfl ?_
  exact WL.nil ⟨rfl, _, rfl, rfl, hs.cutG 0 0⟩ }
  {
  intro ρ w Γx Λx hs hu hp
  have e453 : ρ 65 = undef := (hp 30 rfl).1
  have e454 : ρ 63 = .bool (x391.Process != x21) := (hp 28 rfl).1
  refine WL.pass ((wanted_of rfl rfl (bool_tr e454 hc395)).trans rfl) rfl ?_
  exact WL.nil ⟨rfl, _, rfl, rfl, hs.cutG 0 0⟩ }
  {
  intro ρ w Γx Λx hs hu hp
  have e455 : ρ 66 = undef := (hp 31 rfl).1
  refine WL.pass (wanted_undef rfl rfl e455) rfl ?_
  exact WL.nil ⟨rfl, _, rfl, rfl, hs.cutG 0 0⟩ }
  {
  intro ρ w Γx Λx hs hu hp
  have e456 : ρ 66 = undef := (hp 31 rfl).1
  refine WL.pass (wanted_undef rfl rfl e456) rfl ?_
  exact WL.nil ⟨rfl, _, rfl, rfl, hs.cutG 0 0⟩ }
  {
  intro ρ w Γx Λx hs hu hp
  have e457 : ρ 67 = undef := (hp 32 rfl).1
  have e458 : ρ 68 = undef := (hp 33 rfl).1
  have e459 : ρ 66 = undef := (hp 31 rfl).1
  refine WL.pass (wanted_undef rfl rfl e459) rfl ?_
  exact WL.nil ⟨rfl, _, rfl, rfl, hs.cutG 0 0⟩ }
  {
  intro ρ w Γx Λx hs hu hp
  have e460 : ρ 69 = undef := (hp 34 rfl).1
  have e461 : ρ 66 = undef := (hp 31 rfl).1
  refine WL.pass (wanted_undef rfl rfl e461) rfl ?_
  exact WL.nil ⟨rfl, _, rfl, rfl, hs.cutG 0 0⟩ }
  {
  intro ρ w Γx Λx hs hu hp
  have e462 : ρ 66 = undef := (hp 31 rfl).1
  refine WL.pass (wanted_undef rfl rfl e462) rfl ?_
  exact WL.nil ⟨rfl, _, rfl, rfl, hs.cutG 0 0⟩ }
  {
  intro ρ w Γx Λx hs hu hp
  have e463 : ρ 66 = undef := (hp 31 rfl).1
  refine WL.pass (wanted_undef rfl rfl e463) rfl ?_
  exact WL.nil ⟨rfl, _, rfl, rfl, hs.cutG 0 0⟩ }
  {
  intro ρ w Γx Λx hs hu hp
  have e464 : ρ 72 = undef := (hp 37 rfl).1
  have e465 : ρ 66 = undef := (hp 31 rfl).1
  refine WL.pass (wanted_undef rfl rfl e465) rfl ?_
  exact WL.nil ⟨rfl, _, rfl, rfl, hs.cutG 0 0⟩ }
  {
  intro ρ w Γx Λx hs hu hp
  have e466 : ρ 71 = undef := (hp 36 rfl).1
  have e467 : ρ 73 = undef := (hp 38 rfl).1
  have e468 : ρ 66 = undef := (hp 31 rfl).1
  refine WL.pass (wanted_undef rfl rfl e468) rfl ?_
  exact WL.nil ⟨rfl, _, rfl, rfl, hs.cutG 0 0⟩ }
  {
  intro ρ w Γx Λx hs hu hp
  have e469 : ρ 74 = undef := (hp 39 rfl).1
  have e470 : ρ 66 = undef := (hp 31 rfl).1
  refine WL.pass (wanted_undef rfl rfl e470) rfl ?_
  exact WL.nil ⟨rfl, _, rfl, rfl, hs.cutG 0 0⟩ }
  {
  intro ρ w Γx Λx hs hu hp
  have e471 : ρ 70 = undef := (hp 35 rfl).1
  have e472 : ρ 75 = undef := (hp 40 rfl).1
  have e473 : ρ 66 = undef := (hp 31 rfl).1
  refine WL.pass (wanted_undef rfl rfl e473) rfl ?_
  exact WL.nil ⟨rfl, _, rfl, rfl, hs.cutG 0 0⟩ }
  {
  intro ρ w Γx Λx hs hu hp
  have e474 : ρ 66 = undef := (hp 31 rfl).1
  have e475 : ρ 76 = undef := (hp 41 rfl).1
  have e476 : ρ 63 = .bool (x391.Process != x21) := (hp 28 rfl).1
  refine WL.pass ((wanted_of rfl rfl (bool_tr e476 hc395)).trans rfl) rfl ?_
  exact WL.nil ⟨rfl, _, rfl, rfl, hs.cutG 0 0⟩ }
  {
  intro ρ w Γx Λx hs hu hp
  have e477 : ρ 63 = .bool (x391.Process != x21) := (hp 28 rfl).1
  have e478 : ρ 77 = undef := (hp 42 rfl).1
  refine WL.pickT (v := .bool true) (bool_tr e477 hc395) rfl ?_
  exact WL.nil ⟨rfl, _, rfl, rfl, hs.cutG 0 0⟩ }
  {
  intro ρ w hs hu479 hp
  obtain ⟨⟨⟨⟨⟨⟨⟨⟨⟨⟨⟨⟨⟨⟨⟨⟨⟨⟨⟨⟨⟨⟨⟨⟨⟨⟨⟨⟨⟨⟨⟨⟨⟨⟨⟨⟨⟨⟨⟨⟨⟨⟨⟨⟨_, hp0_⟩, hp1_⟩, hp2_⟩, hp3_⟩, hp4_⟩, hp5_⟩, hp6_⟩, hp7_⟩, hp8_⟩, hp9_⟩, hp10_⟩, hp11_⟩, hp12_⟩, hp13_⟩, hp14_⟩, hp15_⟩, hp16_⟩, hp17_⟩, hp18_⟩, hp19_⟩, hp20_⟩, hp21_⟩, hp22_⟩, hp23_⟩, hp24_⟩, hp25_⟩, hp26_⟩, hp27_⟩, hp28_⟩, hp29_⟩, hp30_⟩, hp31_⟩, hp32_⟩, hp33_⟩, hp34_⟩, hp35_⟩, hp36_⟩, hp37_⟩, hp38_⟩, hp39_⟩, hp40_⟩, hp41_⟩, hp42_⟩, hp43_⟩ := hp
  have hs : St ok (bz w0) w [pl (tInt .i64) x391.Process (adOf (ρ 58)), pl t_history_Operation x391 (adOf (ρ 57)), vl (tSlice t_history_Operation) x7.Operations (.slice a8 (x7.Operations).length c10)] [own t_history_Operation 35 (.slice a74 n76 c75) x73, blk g28 24 [.slice a74 n76 c75], own (tInt .i64) 3 (.slice a24 n25 c26) x23, blk g11 24 [.slice a8 (x7.Operations).length c10]] := hs
  have e480 : ρ 78 = .bool true := hp43_
  have e481 : ρ 77 = undef := hp42_
  have e482 : ρ 76 = undef := hp41_
  have e483 : ρ 75 = undef := hp40_
  have e484 : ρ 74 = undef := hp39_
  have e485 : ρ 73 = undef := hp38_
  have e486 : ρ 72 = undef := hp37_
  have e487 : ρ 71 = undef := hp36_
  have e488 : ρ 70 = undef := hp35_
  have e489 : ρ 69 = undef := hp34_
  have e490 : ρ 68 = undef := hp33_
  have e491 : ρ 67 = undef := hp32_
  have e492 : ρ 66 = undef := hp31_
  have e493 : ρ 65 = undef := hp30_
  have e494 : ρ 64 = undef := hp29_
  have e495 : ρ 63 = .bool (x391.Process != x21) := hp28_
  have e496 : ρ 62 = .bool (x391.Process != x21) := hp27_
  have e497 : ρ 61 = .bool (x391.Process != x21) := hp26_
  have e498 : ρ 60 = .int .i64 x21 := hp25_
  have e499 : ρ 59 = .int .i64 x391.Process := hp24_
  obtain ⟨ad500, e501⟩ := hp23_
  have e501 : ρ 58 = .pointer (some ad500) := e501
  try rw [e501] at hs
  obtain ⟨ad502, e503⟩ := hp22_
  have e503 : ρ 57 = .pointer (some ad502) := e503
  try rw [e503] at hs
  have e504 : ρ 56 = .int .i64 x388 := hp21_
  have e505 : ρ 54 = .int .i64 x72 := hp19_
  have e506 : ρ 53 = .slice a24 n25 c26 := hp18_
  have e507 : ρ 52 = .slice a8 (x7.Operations).length c10 := hp17_
  have e508 : ρ 51 = .pointer (some ⟨g11, 0, none⟩) := hp16_
  have e509 : ρ 50 = .bool (decide (((x7.Operations).length : Int) ≤ x263)) := hp15_
  have e510 : ρ 49 = .bool (decide (((x7.Operations).length : Int) ≤ x263)) := hp14_
  have e511 : ρ 48 = .bool (decide (((x7.Operations).length : Int) ≤ x263)) := hp13_
  have e512 : ρ 47 = .int .i64 ((x7.Operations).length : Int) := hp12_
  have e513 : ρ 46 = .slice a8 (x7.Operations).length c10 := hp11_
  have e514 : ρ 45 = .pointer (some ⟨g11, 0, none⟩) := hp10_
  have e515 : ρ 44 = .int .i64 x263 := hp9_
  have e516 : ρ 42 = .int .i64 x72 := hp7_
  have e517 : ρ 41 = .slice a24 n25 c26 := hp6_
  have e518 : ρ 40 = .bool (decide (x138 < 0)) := hp5_
  have e519 : ρ 39 = .bool (decide (x138 < 0)) := hp4_
  have e520 : ρ 38 = .int .i64 x138 := hp3_
  have e521 : ρ 36 = .int .i64 x72 := hp1_
  have e522 : ρ 35 = .slice a24 n25 c26 := hp0_
  refine WA.done (by kernel_rfl) ?_
  exact Jk93 true _ _ ((hu479 5 rfl).trans h71_5) ((hu479 7 rfl).trans h71_7) ((hu479 8 rfl).trans h71_8) ((hu479 9 rfl).trans h71_9) ((hu479 10 rfl).trans h71_10) e480 ((hs.mask [true, true, true, true]).pick [2]) hf } }
  {
  rcases iteE hf with ⟨hc523, hf⟩ | ⟨hc523, hf⟩
  {
  obtain ⟨x524, hxx524, hf⟩ := bindE hf
  obtain ⟨x527, ex527, hf⟩ := letE hf
  obtain ⟨x528, hxx528, hf⟩ := bindE hf
  refine W.any (by kernel_rfl) 44 0 [true, true, true, true, true, true, true, true, true, true, true, true, true, true, true, true, true, true, true, true, true, true, true, true, true, true, true, true, true, true, true, true, true, true, true, true, true, true, true, true, true, true, true, true] rfl rfl (poAt [pv (.slice a24 n25 c26), pv (.int .i64 x72), po (fun ad => Go.Proofs.YtbbeobiampbddaaL.OwnAt 1 (.slice a24 n25 c26) x72 ad), pv (.int .i64 x138), pv (.bool (decide (x138 < 0))), pv (.bool (decide (x138 < 0))), pv (.slice a24 n25 c26), pv (.int .i64 x72), po (fun ad => Go.Proofs.YtbbeobiampbddaaL.OwnAt 1 (.slice a24 n25 c26) x72 ad), pv (.int .i64 x263), pv (.pointer (some ⟨g11, 0, none⟩)), pv (.slice a8 (x7.Operations).length c10), pv (.int .i64 ((x7.Operations).length : Int)), pv (.bool (decide (((x7.Operations).length : Int) ≤ x263))), pv (.bool (decide (((x7.Operations).length : Int) ≤ x263))), pv (.bool (decide (((x7.Operations).length : Int) ≤ x263))), pv (.pointer (some ⟨g11, 0, none⟩)), pv (.slice a8 (x7.Operations).length c10), pv (.slice a24 n25 c26), pv (.int .i64 x72), po (fun ad => Go.Proofs.YtbbeobiampbddaaL.OwnAt 1 (.slice a24 n25 c26) x72 ad), pv (.int .i64 x388), pq (fun y : Addr => .pointer (some y)) (fun v => [pl t_history_Operation x391 (adOf v)]) (fun v => []), pq (fun y : Addr => .pointer (some y)) (fun v => [pl (tInt .i64) x391.Process (adOf v)]) (fun v => []), pv (.int .i64 x391.Process), pv (.int .i64 x21), pv (.bool (x391.Process != x21)), pv (.bool (x391.Process != x21)), pv (.bool (x391.Process != x21)), pv (.int .i64 x72), pv (.bool (decide (0 < x72))), pv (.bool (decide (0 < x72))), pv (.slice a24 n25 c26), pv (.int .i64 x72), po (fun ad => Go.Proofs.YtbbeobiampbddaaL.OwnAt 1 (.slice a24 n25 c26) x72 ad), pv (.int .i64 x524), pv (.slice a24 n25 c26), pv (.int .i64 x72), pv (.int .i64 x527), po (fun ad => Go.Proofs.YtbbeobiampbddaaL.OwnAt 1 (.slice a24 n25 c26) x527 ad), pv (.int .i64 x528), pv (.bool (decide (x524 ≤ x528))), pv (.bool (decide (x524 ≤ x528))), pv (.bool (decide (x524 ≤ x528)))]) (Λ := [own t_history_Operation 35 (.slice a74 n76 c75) x73, blk g28 24 [.slice a74 n76 c75], own (tInt .i64) 3 (.slice a24 n25 c26) x23, blk g11 24 [.slice a8 (x7.Operations).length c10]]) hs (by kernel_rfl) (by kernel_rfl) (by kernel_rfl) ⟨⟨⟨⟨⟨⟨⟨⟨⟨⟨⟨⟨⟨⟨⟨⟨⟨⟨⟨⟨⟨⟨⟨⟨⟨⟨⟨⟨⟨⟨⟨⟨⟨⟨⟨⟨⟨⟨⟨⟨⟨⟨⟨⟨trivial, ?_⟩, ?_⟩, ?_⟩, ?_⟩, ?_⟩, ?_⟩, ?_⟩, ?_⟩, ?_⟩, ?_⟩, ?_⟩, ?_⟩, ?_⟩, ?_⟩, ?_⟩, ?_⟩, ?_⟩, ?_⟩, ?_⟩, ?_⟩, ?_⟩, ?_⟩, ?_⟩, ?_⟩, ?_⟩, ?_⟩, ?_⟩, ?_⟩, ?_⟩, ?_⟩, ?_⟩, ?_⟩, ?_⟩, ?_⟩, ?_⟩, ?_⟩, ?_⟩, ?_⟩, ?_⟩, ?_⟩, ?_⟩, ?_⟩, ?_⟩, ?_⟩ ?_
  {
  intro ρ w Γx Λx hs hu hp
  refine WL.move (v := .slice a24 n25 c26) ((hu 8 rfl).trans h71_8) ?_
  exact WL.nil ⟨rfl, _, rfl, rfl, hs.cutG 0 0⟩ }
  {
  intro ρ w Γx Λx hs hu hp
  refine WL.move (v := .int .i64 x72) ((hu 10 rfl).trans h71_10) ?_
  exact WL.nil ⟨rfl, _, rfl, rfl, hs.cutG 0 0⟩ }
  {
  intro ρ w Γx Λx hs hu hp
  have e531 : ρ 35 = .slice a24 n25 c26 := (hp 0 rfl).1
  have e532 : ρ 36 = .int .i64 x72 := (hp 1 rfl).1
  refine WL.indexAddrO hs (Λx.length + 2) (getApp rfl) UN29 TI3 e531 e532 hxx138 (fun ad139 hatad139 => ?_)
  exact WL.nil ⟨rfl, _, rfl, ⟨ad139, rfl, hatad139⟩, hs.cutG 0 0⟩ }
  {
  intro ρ w Γx Λx hs hu hp
  obtain ⟨ad534, e533, hatad534⟩ := (hp 2 rfl).1
  have e533 : ρ 37 = .pointer (some ad534) := e533
  refine WL.loadO hs (Λx.length + 2) (getApp rfl) TI3 (.inr rfl) hatad534 hxx138 e533 (fun v140 hs => ?_)
  obtain rfl := hs.int 0 rfl
  exact WL.nil ⟨rfl, _, rfl, rfl, hs.cutG 0 1⟩ }
  {
  intro ρ w Γx Λx hs hu hp
  have e535 : ρ 38 = .int .i64 x138 := (hp 3 rfl).1
  refine WL.bin (v := .bool (decide (x138 < 0))) e535 rfl (ib_lss _ _ _) ?_
  exact WL.nil ⟨rfl, _, rfl, rfl, hs.cutG 0 0⟩ }
  {
  intro ρ w Γx Λx hs hu hp
  have e536 : ρ 39 = .bool (decide (x138 < 0)) := (hp 4 rfl).1
  refine WL.move (v := .bool (decide (x138 < 0))) e536 ?_
  exact WL.nil ⟨rfl, _, rfl, rfl, hs.cutG 0 0⟩ }
  {
  intro ρ w Γx Λx hs hu hp
  have e537 : ρ 40 = .bool (decide (x138 < 0)) := (hp 5 rfl).1
  refine WL.move (v := .slice a24 n25 c26) ((hu 8 rfl).trans h71_8) ?_ (hg := (wanted_of rfl rfl (bool_tr e537 hc141)).trans rfl)
  exact WL.nil ⟨rfl, _, rfl, rfl, hs.cutG 0 0⟩ }
  {
  intro ρ w Γx Λx hs hu hp
  have e538 : ρ 40 = .bool (decide (x138 < 0)) := (hp 5 rfl).1
  refine WL.move (v := .int .i64 x72) ((hu 10 rfl).trans h71_10) ?_ (hg := (wanted_of rfl rfl (bool_tr e538 hc141)).trans rfl)
  exact WL.nil ⟨rfl, _, rfl, rfl, hs.cutG 0 0⟩ }
  {
  intro ρ w Γx Λx hs hu hp
  have e539 : ρ 41 = .slice a24 n25 c26 := (hp 6 rfl).1
  have e540 : ρ 42 = .int .i64 x72 := (hp 7 rfl).1
  have e541 : ρ 40 = .bool (decide (x138 < 0)) := (hp 5 rfl).1
  refine WL.indexAddrO hs (Λx.length + 2) (getApp rfl) UN29 TI3 e539 e540 hxx263 (fun ad264 hatad264 => ?_) (hg := (wanted_of rfl rfl (bool_tr e541 hc141)).trans rfl)
  exact WL.nil ⟨rfl, _, rfl, ⟨ad264, rfl, hatad264⟩, hs.cutG 0 0⟩ }
  {
  intro ρ w Γx Λx hs hu hp
  obtain ⟨ad543, e542, hatad543⟩ := (hp 8 rfl).1
  have e542 : ρ 43 = .pointer (some ad543) := e542
  have e544 : ρ 40 = .bool (decide (x138 < 0)) := (hp 5 rfl).1
  refine WL.loadO hs (Λx.length + 2) (getApp rfl) TI3 (.inr rfl) hatad543 hxx263 e542 (fun v265 hs => ?_) (hg := (wanted_of rfl rfl (bool_tr e544 hc141)).trans rfl)
  obtain rfl := hs.int 0 rfl
  exact WL.nil ⟨rfl, _, rfl, rfl, hs.cutG 0 1⟩ }
  {
  intro ρ w Γx Λx hs hu hp
  have e545 : ρ 40 = .bool (decide (x138 < 0)) := (hp 5 rfl).1
  refine WL.fieldAddr (m := 0) ((hu 5 rfl).trans h71_5) FA24_0 rfl ?_ (hg := (wanted_of rfl rfl (bool_tr e545 hc141)).trans rfl)
  exact WL.nil ⟨rfl, _, rfl, rfl, hs.cutG 0 0⟩ }
  {
  intro ρ w Γx Λx hs hu hp
  have e546 : ρ 45 = .pointer (some ⟨g11, 0, none⟩) := (hp 10 rfl).1
  have e547 : ρ 40 = .bool (decide (x138 < 0)) := (hp 5 rfl).1
  refine WL.load1 (v := .slice a8 (x7.Operations).length c10) hs (Λx.length + 3) (getApp rfl) TI22 e546 rfl ?_ (hg := (wanted_of rfl rfl (bool_tr e547 hc141)).trans rfl)
  exact WL.nil ⟨rfl, _, rfl, rfl, hs.cutG 0 0⟩ }
  {
  intro ρ w Γx Λx hs hu hp
  have e548 : ρ 46 = .slice a8 (x7.Operations).length c10 := (hp 11 rfl).1
  have e549 : ρ 40 = .bool (decide (x138 < 0)) := (hp 5 rfl).1
  refine WL.len (v := .slice a8 (x7.Operations).length c10) e548 (len_slice UN22) ?_ (hg := (wanted_of rfl rfl (bool_tr e549 hc141)).trans rfl)
  exact WL.nil ⟨rfl, _, rfl, rfl, hs.cutG 0 0⟩ }
  {
  intro ρ w Γx Λx hs hu hp
  have e550 : ρ 44 = .int .i64 x263 := (hp 9 rfl).1
  have e551 : ρ 47 = .int .i64 ((x7.Operations).length : Int) := (hp 12 rfl).1
  have e552 : ρ 40 = .bool (decide (x138 < 0)) := (hp 5 rfl).1
  refine WL.bin (v := .bool (decide (((x7.Operations).length : Int) ≤ x263))) e550 e551 (ib_geq _ _ _) ?_ (hg := (wanted_of rfl rfl (bool_tr e552 hc141)).trans rfl)
  exact WL.nil ⟨rfl, _, rfl, rfl, hs.cutG 0 0⟩ }
  {
  intro ρ w Γx Λx hs hu hp
  have e553 : ρ 40 = .bool (decide (x138 < 0)) := (hp 5 rfl).1
  have e554 : ρ 48 = .bool (decide (((x7.Operations).length : Int) ≤ x263)) := (hp 13 rfl).1
  refine WL.pickF (v := .bool (decide (((x7.Operations).length : Int) ≤ x263))) (bool_tr e553 hc141) e554 ?_
  exact WL.nil ⟨rfl, _, rfl, rfl, hs.cutG 0 0⟩ }
  {
  intro ρ w Γx Λx hs hu hp
  have e555 : ρ 49 = .bool (decide (((x7.Operations).length : Int) ≤ x263)) := (hp 14 rfl).1
  refine WL.move (v := .bool (decide (((x7.Operations).length : Int) ≤ x263))) e555 ?_
  exact WL.nil ⟨rfl, _, rfl, rfl, hs.cutG 0 0⟩ }
  {
  intro ρ w Γx Λx hs hu hp
  have e556 : ρ 50 = .bool (decide (((x7.Operations).length : Int) ≤ x263)) := (hp 15 rfl).1
  refine WL.fieldAddr (m := 0) ((hu 5 rfl).trans h71_5) FA24_0 rfl ?_ (hg := (wanted_of rfl rfl (bool_tr e556 hc266)).trans rfl)
  exact WL.nil ⟨rfl, _, rfl, rfl, hs.cutG 0 0⟩ }
  {
  intro ρ w Γx Λx hs hu hp
  have e557 : ρ 51 = .pointer (some ⟨g11, 0, none⟩) := (hp 16 rfl).1
  have e558 : ρ 50 = .bool (decide (((x7.Operations).length : Int) ≤ x263)) := (hp 15 rfl).1
  refine WL.load1 (v := .slice a8 (x7.Operations).length c10) hs (Λx.length + 3) (getApp rfl) TI22 e557 rfl ?_ (hg := (wanted_of rfl rfl (bool_tr e558 hc266)).trans rfl)
  exact WL.nil ⟨rfl, _, rfl, rfl, hs.cutG 0 0⟩ }
  {
  intro ρ w Γx Λx hs hu hp
  have e559 : ρ 50 = .bool (decide (((x7.Operations).length : Int) ≤ x263)) := (hp 15 rfl).1
  refine WL.move (v := .slice a24 n25 c26) ((hu 8 rfl).trans h71_8) ?_ (hg := (wanted_of rfl rfl (bool_tr e559 hc266)).trans rfl)
  exact WL.nil ⟨rfl, _, rfl, rfl, hs.cutG 0 0⟩ }
  {
  intro ρ w Γx Λx hs hu hp
  have e560 : ρ 50 = .bool (decide (((x7.Operations).length : Int) ≤ x263)) := (hp 15 rfl).1
  refine WL.move (v := .int .i64 x72) ((hu 10 rfl).trans h71_10) ?_ (hg := (wanted_of rfl rfl (bool_tr e560 hc266)).trans rfl)
  exact WL.nil ⟨rfl, _, rfl, rfl, hs.cutG 0 0⟩ }
  {
  intro ρ w Γx Λx hs hu hp
  have e561 : ρ 53 = .slice a24 n25 c26 := (hp 18 rfl).1
  have e562 : ρ 54 = .int .i64 x72 := (hp 19 rfl).1
  have e563 : ρ 50 = .bool (decide (((x7.Operations).length : Int) ≤ x263)) := (hp 15 rfl).1
  refine WL.indexAddrO hs (Λx.length + 2) (getApp rfl) UN29 TI3 e561 e562 hxx388 (fun ad389 hatad389 => ?_) (hg := (wanted_of rfl rfl (bool_tr e563 hc266)).trans rfl)
  exact WL.nil ⟨rfl, _, rfl, ⟨ad389, rfl, hatad389⟩, hs.cutG 0 0⟩ }
  {
  intro ρ w Γx Λx hs hu hp
  obtain ⟨ad565, e564, hatad565⟩ := (hp 20 rfl).1
  have e564 : ρ 55 = .pointer (some ad565) := e564
  have e566 : ρ 50 = .bool (decide (((x7.Operations).length : Int) ≤ x263)) := (hp 15 rfl).1
  refine WL.loadO hs (Λx.length + 2) (getApp rfl) TI3 (.inr rfl) hatad565 hxx388 e564 (fun v390 hs => ?_) (hg := (wanted_of rfl rfl (bool_tr e566 hc266)).trans rfl)
  obtain rfl := hs.int 0 rfl
  exact WL.nil ⟨rfl, _, rfl, rfl, hs.cutG 0 1⟩ }
  {
  intro ρ w Γx Λx hs hu hp
  have e567 : ρ 52 = .slice a8 (x7.Operations).length c10 := (hp 17 rfl).1
  have e568 : ρ 56 = .int .i64 x388 := (hp 21 rfl).1
  have e569 : ρ 50 = .bool (decide (((x7.Operations).length : Int) ≤ x263)) := (hp 15 rfl).1
  refine WL.indexAddr hs (Γx.length + 0) (getApp rfl) UN22 TI35 e567 e568 hxx391 (fun ad392 hs => ?_) (hg := (wanted_of rfl rfl (bool_tr e569 hc266)).trans rfl)
  have hs := hs.add (it := pl t_history_Operation x391 ad392) fun ok hA => hA.get 0 rfl
  exact WL.nil ⟨rfl, _, rfl, ⟨ad392, rfl⟩, hs.cutG 1 1⟩ }
  {
  intro ρ w Γx Λx hs hu hp
  obtain ⟨⟨ad570, e571r⟩, hm572⟩ := hp 22 rfl
  have e571 : ρ 57 = .pointer (some ad570) := e571r
  rw [e571r] at hm572
  have hs := hs.memo1 (it := pl t_history_Operation x391 ad570) (List.mem_append.2 (.inl (hm572 _ (List.mem_of_getElem? (i := 0) rfl))))
  have e573 : ρ 50 = .bool (decide (((x7.Operations).length : Int) ≤ x263)) := (hp 15 rfl).1
  refine WL.fieldAddrP (z := x391.Process) F_history_Operation_Process hs 0 rfl e571 FA35_0 rfl (fun ad393 hs => ?_) (hg := (wanted_of rfl rfl (bool_tr e573 hc266)).trans rfl)
  have hs := hs.add (it := pl (tInt .i64) x391.Process ad393) fun ok hA => hA.get 0 rfl
  exact WL.nil ⟨rfl, _, rfl, ⟨ad393, rfl⟩, hs.cutG 1 2⟩ }
  {
  intro ρ w Γx Λx hs hu hp
  obtain ⟨⟨ad574, e575r⟩, hm576⟩ := hp 23 rfl
  have e575 : ρ 58 = .pointer (some ad574) := e575r
  rw [e575r] at hm576
  have hs := hs.memo1 (it := pl (tInt .i64) x391.Process ad574) (List.mem_append.2 (.inl (hm576 _ (List.mem_of_getElem? (i := 0) rfl))))
  have e577 : ρ 50 = .bool (decide (((x7.Operations).length : Int) ≤ x263)) := (hp 15 rfl).1
  refine WL.loadP hs 0 rfl TI3 (.inr rfl) e575 (fun v394 hs => ?_) (hg := (wanted_of rfl rfl (bool_tr e577 hc266)).trans rfl)
  obtain rfl := hs.int 0 rfl
  exact WL.nil ⟨rfl, _, rfl, rfl, hs.cutG 0 2⟩ }
  {
  intro ρ w Γx Λx hs hu hp
  have e578 : ρ 50 = .bool (decide (((x7.Operations).length : Int) ≤ x263)) := (hp 15 rfl).1
  refine WL.move (v := .int .i64 x21) ((hu 7 rfl).trans h71_7) ?_ (hg := (wanted_of rfl rfl (bool_tr e578 hc266)).trans rfl)
  exact WL.nil ⟨rfl, _, rfl, rfl, hs.cutG 0 0⟩ }
  {
  intro ρ w Γx Λx hs hu hp
  have e579 : ρ 59 = .int .i64 x391.Process := (hp 24 rfl).1
  have e580 : ρ 60 = .int .i64 x21 := (hp 25 rfl).1
  have e581 : ρ 50 = .bool (decide (((x7.Operations).length : Int) ≤ x263)) := (hp 15 rfl).1
  refine WL.bin (v := .bool (x391.Process != x21)) e579 e580 (ib_neq _ _ _) ?_ (hg := (wanted_of rfl rfl (bool_tr e581 hc266)).trans rfl)
  exact WL.nil ⟨rfl, _, rfl, rfl, hs.cutG 0 0⟩ }
  {
  intro ρ w Γx Λx hs hu hp
  have e582 : ρ 50 = .bool (decide (((x7.Operations).length : Int) ≤ x263)) := (hp 15 rfl).1
  have e583 : ρ 61 = .bool (x391.Process != x21) := (hp 26 rfl).1
  refine WL.pickF (v := .bool (x391.Process != x21)) (bool_tr e582 hc266) e583 ?_
  exact WL.nil ⟨rfl, _, rfl, rfl, hs.cutG 0 0⟩ }
  {
  intro ρ w Γx Λx hs hu hp
  have e584 : ρ 62 = .bool (x391.Process != x21) := (hp 27 rfl).1
  refine WL.move (v := .bool (x391.Process != x21)) e584 ?_
  exact WL.nil ⟨rfl, _, rfl, rfl, hs.cutG 0 0⟩ }
  {
  intro ρ w Γx Λx hs hu hp
  have e585 : ρ 63 = .bool (x391.Process != x21) := (hp 28 rfl).1
  refine WL.move (v := .int .i64 x72) ((hu 10 rfl).trans h71_10) ?_ (hg := (wanted_of rfl rfl (bool_tr e585 hc395)).trans rfl)
  exact WL.nil ⟨rfl, _, rfl, rfl, hs.cutG 0 0⟩ }
  {
  intro ρ w Γx Λx hs hu hp
  have e586 : ρ 64 = .int .i64 x72 := (hp 29 rfl).1
  have e587 : ρ 63 = .bool (x391.Process != x21) := (hp 28 rfl).1
  refine WL.bin (v := .bool (decide (0 < x72))) e586 rfl (ib_gtr _ _ _) ?_ (hg := (wanted_of rfl rfl (bool_tr e587 hc395)).trans rfl)
  exact WL.nil ⟨rfl, _, rfl, rfl, hs.cutG 0 0⟩ }
  {
  intro ρ w Γx Λx hs hu hp
  have e588 : ρ 65 = .bool (decide (0 < x72)) := (hp 30 rfl).1
  have e589 : ρ 63 = .bool (x391.Process != x21) := (hp 28 rfl).1
  refine WL.move (v := .bool (decide (0 < x72))) e588 ?_ (hg := (wanted_of rfl rfl (bool_tr e589 hc395)).trans rfl)
  exact WL.nil ⟨rfl, _, rfl, rfl, hs.cutG 0 0⟩ }
  {
  intro ρ w Γx Λx hs hu hp
  have e590 : ρ 66 = .bool (decide (0 < x72)) := (hp 31 rfl).1
  refine WL.move (v := .slice a24 n25 c26) ((hu 8 rfl).trans h71_8) ?_ (hg := (wanted_of rfl rfl (bool_tr e590 hc523)).trans rfl)
  exact WL.nil ⟨rfl, _, rfl, rfl, hs.cutG 0 0⟩ }
  {
  intro ρ w Γx Λx hs hu hp
  have e591 : ρ 66 = .bool (decide (0 < x72)) := (hp 31 rfl).1
  refine WL.move (v := .int .i64 x72) ((hu 10 rfl).trans h71_10) ?_ (hg := (wanted_of rfl rfl (bool_tr e591 hc523)).trans rfl)
  exact WL.nil ⟨rfl, _, rfl, rfl, hs.cutG 0 0⟩ }
  {
  intro ρ w Γx Λx hs hu hp
  have e592 : ρ 67 = .slice a24 n25 c26 := (hp 32 rfl).1
  have e593 : ρ 68 = .int .i64 x72 := (hp 33 rfl).1
  have e594 : ρ 66 = .bool (decide (0 < x72)) := (hp 31 rfl).1
  refine WL.indexAddrO hs (Λx.length + 2) (getApp rfl) UN29 TI3 e592 e593 hxx524 (fun ad525 hatad525 => ?_) (hg := (wanted_of rfl rfl (bool_tr e594 hc523)).trans rfl)
  exact WL.nil ⟨rfl, _, rfl, ⟨ad525, rfl, hatad525⟩, hs.cutG 0 0⟩ }
  {
  intro ρ w Γx Λx hs hu hp
  obtain ⟨ad596, e595, hatad596⟩ := (hp 34 rfl).1
  have e595 : ρ 69 = .pointer (some ad596) := e595
  have e597 : ρ 66 = .bool (decide (0 < x72)) := (hp 31 rfl).1
  refine WL.loadO hs (Λx.length + 2) (getApp rfl) TI3 (.inr rfl) hatad596 hxx524 e595 (fun v526 hs => ?_) (hg := (wanted_of rfl rfl (bool_tr e597 hc523)).trans rfl)
  obtain rfl := hs.int 0 rfl
  exact WL.nil ⟨rfl, _, rfl, rfl, hs.cutG 0 1⟩ }
  {
  intro ρ w Γx Λx hs hu hp
  have e598 : ρ 66 = .bool (decide (0 < x72)) := (hp 31 rfl).1
  refine WL.move (v := .slice a24 n25 c26) ((hu 8 rfl).trans h71_8) ?_ (hg := (wanted_of rfl rfl (bool_tr e598 hc523)).trans rfl)
  exact WL.nil ⟨rfl, _, rfl, rfl, hs.cutG 0 0⟩ }
  {
  intro ρ w Γx Λx hs hu hp
  have e599 : ρ 66 = .bool (decide (0 < x72)) := (hp 31 rfl).1
  refine WL.move (v := .int .i64 x72) ((hu 10 rfl).trans h71_10) ?_ (hg := (wanted_of rfl rfl (bool_tr e599 hc523)).trans rfl)
  exact WL.nil ⟨rfl, _, rfl, rfl, hs.cutG 0 0⟩ }
  {
  intro ρ w Γx Λx hs hu hp
  have e600 : ρ 72 = .int .i64 x72 := (hp 37 rfl).1
  have e601 : ρ 66 = .bool (decide (0 < x72)) := (hp 31 rfl).1
  refine WL.bin (v := .int .i64 x527) e600 rfl (ib_as ex527 (ib_sub _ _ _)) ?_ (hg := (wanted_of rfl rfl (bool_tr e601 hc523)).trans rfl)
  exact WL.nil ⟨rfl, _, rfl, rfl, hs.cutG 0 0⟩ }
  {
  intro ρ w Γx Λx hs hu hp
  have e602 : ρ 71 = .slice a24 n25 c26 := (hp 36 rfl).1
  have e603 : ρ 73 = .int .i64 x527 := (hp 38 rfl).1
  have e604 : ρ 66 = .bool (decide (0 < x72)) := (hp 31 rfl).1
  refine WL.indexAddrO hs (Λx.length + 2) (getApp rfl) UN29 TI3 e602 e603 hxx528 (fun ad529 hatad529 => ?_) (hg := (wanted_of rfl rfl (bool_tr e604 hc523)).trans rfl)
  exact WL.nil ⟨rfl, _, rfl, ⟨ad529, rfl, hatad529⟩, hs.cutG 0 0⟩ }
  {
  intro ρ w Γx Λx hs hu hp
  obtain ⟨ad606, e605, hatad606⟩ := (hp 39 rfl).1
  have e605 : ρ 74 = .pointer (some ad606) := e605
  have e607 : ρ 66 = .bool (decide (0 < x72)) := (hp 31 rfl).1
  refine WL.loadO hs (Λx.length + 2) (getApp rfl) TI3 (.inr rfl) hatad606 hxx528 e605 (fun v530 hs => ?_) (hg := (wanted_of rfl rfl (bool_tr e607 hc523)).trans rfl)
  obtain rfl := hs.int 0 rfl
  exact WL.nil ⟨rfl, _, rfl, rfl, hs.cutG 0 1⟩ }
  {
  intro ρ w Γx Λx hs hu hp
  have e608 : ρ 70 = .int .i64 x524 := (hp 35 rfl).1
  have e609 : ρ 75 = .int .i64 x528 := (hp 40 rfl).1
  have e610 : ρ 66 = .bool (decide (0 < x72)) := (hp 31 rfl).1
  refine WL.bin (v := .bool (decide (x524 ≤ x528))) e608 e609 (ib_leq _ _ _) ?_ (hg := (wanted_of rfl rfl (bool_tr e610 hc523)).trans rfl)
  exact WL.nil ⟨rfl, _, rfl, rfl, hs.cutG 0 0⟩ }
  {
  intro ρ w Γx Λx hs hu hp
  have e611 : ρ 66 = .bool (decide (0 < x72)) := (hp 31 rfl).1
  have e612 : ρ 76 = .bool (decide (x524 ≤ x528)) := (hp 41 rfl).1
  have e613 : ρ 63 = .bool (x391.Process != x21) := (hp 28 rfl).1
  refine WL.pickT (v := .bool (decide (x524 ≤ x528))) (bool_tr e611 hc523) e612 ?_ (hg := (wanted_of rfl rfl (bool_tr e613 hc395)).trans rfl)
  exact WL.nil ⟨rfl, _, rfl, rfl, hs.cutG 0 0⟩ }
  {
  intro ρ w Γx Λx hs hu hp
  have e614 : ρ 63 = .bool (x391.Process != x21) := (hp 28 rfl).1
  have e615 : ρ 77 = .bool (decide (x524 ≤ x528)) := (hp 42 rfl).1
  refine WL.pickF (v := .bool (decide (x524 ≤ x528))) (bool_tr e614 hc395) e615 ?_
  exact WL.nil ⟨rfl, _, rfl, rfl, hs.cutG 0 0⟩ }
  {
  intro ρ w hs hu616 hp
  obtain ⟨⟨⟨⟨⟨⟨⟨⟨⟨⟨⟨⟨⟨⟨⟨⟨⟨⟨⟨⟨⟨⟨⟨⟨⟨⟨⟨⟨⟨⟨⟨⟨⟨⟨⟨⟨⟨⟨⟨⟨⟨⟨⟨⟨_, hp0_⟩, hp1_⟩, hp2_⟩, hp3_⟩, hp4_⟩, hp5_⟩, hp6_⟩, hp7_⟩, hp8_⟩, hp9_⟩, hp10_⟩, hp11_⟩, hp12_⟩, hp13_⟩, hp14_⟩, hp15_⟩, hp16_⟩, hp17_⟩, hp18_⟩, hp19_⟩, hp20_⟩, hp21_⟩, hp22_⟩, hp23_⟩, hp24_⟩, hp25_⟩, hp26_⟩, hp27_⟩, hp28_⟩, hp29_⟩, hp30_⟩, hp31_⟩, hp32_⟩, hp33_⟩, hp34_⟩, hp35_⟩, hp36_⟩, hp37_⟩, hp38_⟩, hp39_⟩, hp40_⟩, hp41_⟩, hp42_⟩, hp43_⟩ := hp
  have hs : St ok (bz w0) w [pl (tInt .i64) x391.Process (adOf (ρ 58)), pl t_history_Operation x391 (adOf (ρ 57)), vl (tSlice t_history_Operation) x7.Operations (.slice a8 (x7.Operations).length c10)] [own t_history_Operation 35 (.slice a74 n76 c75) x73, blk g28 24 [.slice a74 n76 c75], own (tInt .i64) 3 (.slice a24 n25 c26) x23, blk g11 24 [.slice a8 (x7.Operations).length c10]] := hs
  have e617 : ρ 78 = .bool (decide (x524 ≤ x528)) := hp43_
  have e618 : ρ 77 = .bool (decide (x524 ≤ x528)) := hp42_
  have e619 : ρ 76 = .bool (decide (x524 ≤ x528)) := hp41_
  have e620 : ρ 75 = .int .i64 x528 := hp40_
  have e621 : ρ 73 = .int .i64 x527 := hp38_
  have e622 : ρ 72 = .int .i64 x72 := hp37_
  have e623 : ρ 71 = .slice a24 n25 c26 := hp36_
  have e624 : ρ 70 = .int .i64 x524 := hp35_
  have e625 : ρ 68 = .int .i64 x72 := hp33_
  have e626 : ρ 67 = .slice a24 n25 c26 := hp32_
  have e627 : ρ 66 = .bool (decide (0 < x72)) := hp31_
  have e628 : ρ 65 = .bool (decide (0 < x72)) := hp30_
  have e629 : ρ 64 = .int .i64 x72 := hp29_
  have e630 : ρ 63 = .bool (x391.Process != x21) := hp28_
  have e631 : ρ 62 = .bool (x391.Process != x21) := hp27_
  have e632 : ρ 61 = .bool (x391.Process != x21) := hp26_
  have e633 : ρ 60 = .int .i64 x21 := hp25_
  have e634 : ρ 59 = .int .i64 x391.Process := hp24_
  obtain ⟨ad635, e636⟩ := hp23_
  have e636 : ρ 58 = .pointer (some ad635) := e636
  try rw [e636] at hs
  obtain ⟨ad637, e638⟩ := hp22_
  have e638 : ρ 57 = .pointer (some ad637) := e638
  try rw [e638] at hs
  have e639 : ρ 56 = .int .i64 x388 := hp21_
  have e640 : ρ 54 = .int .i64 x72 := hp19_
  have e641 : ρ 53 = .slice a24 n25 c26 := hp18_
  have e642 : ρ 52 = .slice a8 (x7.Operations).length c10 := hp17_
  have e643 : ρ 51 = .pointer (some ⟨g11, 0, none⟩) := hp16_
  have e644 : ρ 50 = .bool (decide (((x7.Operations).length : Int) ≤ x263)) := hp15_
  have e645 : ρ 49 = .bool (decide (((x7.Operations).length : Int) ≤ x263)) := hp14_
  have e646 : ρ 48 = .bool (decide (((x7.Operations).length : Int) ≤ x263)) := hp13_
  have e647 : ρ 47 = .int .i64 ((x7.Operations).length : Int) := hp12_
  have e648 : ρ 46 = .slice a8 (x7.Operations).length c10 := hp11_
  have e649 : ρ 45 = .pointer (some ⟨g11, 0, none⟩) := hp10_
  have e650 : ρ 44 = .int .i64 x263 := hp9_
  have e651 : ρ 42 = .int .i64 x72 := hp7_
  have e652 : ρ 41 = .slice a24 n25 c26 := hp6_
  have e653 : ρ 40 = .bool (decide (x138 < 0)) := hp5_
  have e654 : ρ 39 = .bool (decide (x138 < 0)) := hp4_
  have e655 : ρ 38 = .int .i64 x138 := hp3_
  have e656 : ρ 36 = .int .i64 x72 := hp1_
  have e657 : ρ 35 = .slice a24 n25 c26 := hp0_
  refine WA.done (by kernel_rfl) ?_
  exact Jk93 (decide (x524 ≤ x528)) _ _ ((hu616 5 rfl).trans h71_5) ((hu616 7 rfl).trans h71_7) ((hu616 8 rfl).trans h71_8) ((hu616 9 rfl).trans h71_9) ((hu616 10 rfl).trans h71_10) e617 ((hs.mask [true, true, true, true]).pick [2]) hf } }
  {
  refine W.any (by kernel_rfl) 44 0 [true, true, true, true, true, true, true, true, true, true, true, true, true, true, true, true, true, true, true, true, true, true, true, true, true, true, true, true, true, true, true, true, true, true, true, true, true, true, true, true, true, true, true, true] rfl rfl (poAt [pv (.slice a24 n25 c26), pv (.int .i64 x72), po (fun ad => Go.Proofs.YtbbeobiampbddaaL.OwnAt 1 (.slice a24 n25 c26) x72 ad), pv (.int .i64 x138), pv (.bool (decide (x138 < 0))), pv (.bool (decide (x138 < 0))), pv (.slice a24 n25 c26), pv (.int .i64 x72), po (fun ad => Go.Proofs.YtbbeobiampbddaaL.OwnAt 1 (.slice a24 n25 c26) x72 ad), pv (.int .i64 x263), pv (.pointer (some ⟨g11, 0, none⟩)), pv (.slice a8 (x7.Operations).length c10), pv (.int .i64 ((x7.Operations).length : Int)), pv (.bool (decide (((x7.Operations).length : Int) ≤ x263))), pv (.bool (decide (((x7.Operations).length : Int) ≤ x263))), pv (.bool (decide (((x7.Operations).length : Int) ≤ x263))), pv (.pointer (some ⟨g11, 0, none⟩)), pv (.slice a8 (x7.Operations).length c10), pv (.slice a24 n25 c26), pv (.int .i64 x72), po (fun ad => Go.Proofs.YtbbeobiampbddaaL.OwnAt 1 (.slice a24 n25 c26) x72 ad), pv (.int .i64 x388), pq (fun y : Addr => .pointer (some y)) (fun v => [pl t_history_Operation x391 (adOf v)]) (fun v => []), pq (fun y : Addr => .pointer (some y)) (fun v => [pl (tInt .i64) x391.Process (adOf v)]) (fun v => []), pv (.int .i64 x391.Process), pv (.int .i64 x21), pv (.bool (x391.Process != x21)), pv (.bool (x391.Process != x21)), pv (.bool (x391.Process != x21)), pv (.int .i64 x72), pv (.bool (decide (0 < x72))), pv (.bool (decide (0 < x72))), pv (undef), pv (undef), pv (undef), pv (undef), pv (undef), pv (undef), pv (undef), pv (undef), pv (undef), pv (undef), pv (.bool false), pv (.bool false)]) (Λ := [own t_history_Operation 35 (.slice a74 n76 c75) x73, blk g28 24 [.slice a74 n76 c75], own (tInt .i64) 3 (.slice a24 n25 c26) x23, blk g11 24 [.slice a8 (x7.Operations).length c10]]) hs (by kernel_rfl) (by kernel_rfl) (by kernel_rfl) ⟨⟨⟨⟨⟨⟨⟨⟨⟨⟨⟨⟨⟨⟨⟨⟨⟨⟨⟨⟨⟨⟨⟨⟨⟨⟨⟨⟨⟨⟨⟨⟨⟨⟨⟨⟨⟨⟨⟨⟨⟨⟨⟨⟨trivial, ?_⟩, ?_⟩, ?_⟩, ?_⟩, ?_⟩, ?_⟩, ?_⟩, ?_⟩, ?_⟩, ?_⟩, ?_⟩, ?_⟩, ?_⟩, ?_⟩, ?_⟩, ?_⟩, ?_⟩, ?_⟩, ?_⟩, ?_⟩, ?_⟩, ?_⟩, ?_⟩, ?_⟩, ?_⟩, ?_⟩, ?_⟩, ?_⟩, ?_⟩, ?_⟩, ?_⟩, ?_⟩, ?_⟩, ?_⟩, ?_⟩, ?_⟩, ?_⟩, ?_⟩, ?_⟩, ?_⟩, ?_⟩, ?_⟩, ?_⟩, ?_⟩ ?_
  {
  intro ρ w Γx Λx hs hu hp
  refine WL.move (v := .slice a24 n25 c26) ((hu 8 rfl).trans h71_8) ?_
  exact WL.nil ⟨rfl, _, rfl, rfl, hs.cutG 0 0⟩ }
  {
  intro ρ w Γx Λx hs hu hp
  refine WL.move (v := .int .i64 x72) ((hu 10 rfl).trans h71_10) ?_
  exact WL.nil ⟨rfl, _, rfl, rfl, hs.cutG 0 0⟩ }
  {
  intro ρ w Γx Λx hs hu hp
  have e658 : ρ 35 = .slice a24 n25 c26 := (hp 0 rfl).1
  have e659 : ρ 36 = .int .i64 x72 := (hp 1 rfl).1
  refine WL.indexAddrO hs (Λx.length + 2) (getApp rfl) UN29 TI3 e658 e659 hxx138 (fun ad139 hatad139 => ?_)
  exact WL.nil ⟨rfl, _, rfl, ⟨ad139, rfl, hatad139⟩, hs.cutG 0 0⟩ }
  {
  intro ρ w Γx Λx hs hu hp
  obtain ⟨ad661, e660, hatad661⟩ := (hp 2 rfl).1
  have e660 : ρ 37 = .pointer (some ad661) := e660
  refine WL.loadO hs (Λx.length + 2) (getApp rfl) TI3 (.inr rfl) hatad661 hxx138 e660 (fun v140 hs => ?_)
  obtain rfl := hs.int 0 rfl
  exact WL.nil ⟨rfl, _, rfl, rfl, hs.cutG 0 1⟩ }
  {
  intro ρ w Γx Λx hs hu hp
  have e662 : ρ 38 = .int .i64 x138 := (hp 3 rfl).1
  refine WL.bin (v := .bool (decide (x138 < 0))) e662 rfl (ib_lss _ _ _) ?_
  exact WL.nil ⟨rfl, _, rfl, rfl, hs.cutG 0 0⟩ }
  {
  intro ρ w Γx Λx hs hu hp
  have e663 : ρ 39 = .bool (decide (x138 < 0)) := (hp 4 rfl).1
  refine WL.move (v := .bool (decide (x138 < 0))) e663 ?_
  exact WL.nil ⟨rfl, _, rfl, rfl, hs.cutG 0 0⟩ }
  {
  intro ρ w Γx Λx hs hu hp
  have e664 : ρ 40 = .bool (decide (x138 < 0)) := (hp 5 rfl).1
  refine WL.move (v := .slice a24 n25 c26) ((hu 8 rfl).trans h71_8) ?_ (hg := (wanted_of rfl rfl (bool_tr e664 hc141)).trans rfl)
  exact WL.nil ⟨rfl, _, rfl, rfl, hs.cutG 0 0⟩ }
  {
  intro ρ w Γx Λx hs hu hp
  have e665 : ρ 40 = .bool (decide (x138 < 0)) := (hp 5 rfl).1
  refine WL.move (v := .int .i64 x72) ((hu 10 rfl).trans h71_10) ?_ (hg := (wanted_of rfl rfl (bool_tr e665 hc141)).trans rfl)
  exact WL.nil ⟨rfl, _, rfl, rfl, hs.cutG 0 0⟩ }
  {
  intro ρ w Γx Λx hs hu hp
  have e666 : ρ 41 = .slice a24 n25 c26 := (hp 6 rfl).1
  have e667 : ρ 42 = .int .i64 x72 := (hp 7 rfl).1
  have e668 : ρ 40 = .bool (decide (x138 < 0)) := (hp 5 rfl).1
  refine WL.indexAddrO hs (Λx.length + 2) (getApp rfl) UN29 TI3 e666 e667 hxx263 (fun ad264 hatad264 => ?_) (hg := (wanted_of rfl rfl (bool_tr e668 hc141)).trans rfl)
  exact WL.nil ⟨rfl, _, rfl, ⟨ad264, rfl, hatad264⟩, hs.cutG 0 0⟩ }
  {
  intro ρ w Γx Λx hs hu hp
  obtain ⟨ad670, e669, hatad670⟩ := (hp 8 rfl).1
  have e669 : ρ 43 = .pointer (some ad670) := e669
  have e671 : ρ 40 = .bool (decide (x138 < 0)) := (hp 5 rfl).1
  refine WL.loadO hs (Λx.length + 2) (getApp rfl) TI3 (.inr rfl) hatad670 hxx263 e669 (fun v265 hs => ?_) (hg := (wanted_of rfl rfl (bool_tr e671 hc141)).trans rfl)
  obtain rfl := hs.int 0 rfl
  exact WL.nil ⟨rfl, _, rfl, rfl, hs.cutG 0 1⟩ }
  {
  intro ρ w Γx Λx hs hu hp
  have e672 : ρ 40 = .bool (decide (x138 < 0)) := (hp 5 rfl).1
  refine WL.fieldAddr (m := 0) ((hu 5 rfl).trans h71_5) FA24_0 rfl ?_ (hg := (wanted_of rfl rfl (bool_tr e672 hc141)).trans rfl)
  exact WL.nil ⟨rfl, _, rfl, rfl, hs.cutG 0 0⟩ }
  {
  intro ρ w Γx Λx hs hu hp
  have e673 : ρ 45 = .pointer (some ⟨g11, 0, none⟩) := (hp 10 rfl).1
  have e674 : ρ 40 = .bool (decide (x138 < 0)) := (hp 5 rfl).1
  refine WL.load1 (v := .slice a8 (x7.Operations).length c10) hs (Λx.length + 3) (getApp rfl) TI22 e673 rfl ?_ (hg := (wanted_of rfl rfl (bool_tr e674 hc141)).trans rfl)
  exact WL.nil ⟨rfl, _, rfl, rfl, hs.cutG 0 0⟩ }
  {
  intro ρ w Γx Λx hs hu hp
  have e675 : ρ 46 = .slice a8 (x7.Operations).length c10 := (hp 11 rfl).1
  have e676 : ρ 40 = .bool (decide (x138 < 0)) := (hp 5 rfl).1
  refine WL.len (v := .slice a8 (x7.Operations).length c10) e675 (len_slice UN22) ?_ (hg := (wanted_of rfl rfl (bool_tr e676 hc141)).trans rfl)
  exact WL.nil ⟨rfl, _, rfl, rfl, hs.cutG 0 0⟩ }
  {
  intro ρ w Γx Λx hs hu hp
  have e677 : ρ 44 = .int .i64 x263 := (hp 9 rfl).1
  have e678 : ρ 47 = .int .i64 ((x7.Operations).length : Int) := (hp 12 rfl).1
  have e679 : ρ 40 = .bool (decide (x138 < 0)) := (hp 5 rfl).1
  refine WL.bin (v := .bool (decide (((x7.Operations).length : Int) ≤ x263))) e677 e678 (ib_geq _ _ _) ?_ (hg := (wanted_of rfl rfl (bool_tr e679 hc141)).trans rfl)
  exact WL.nil ⟨rfl, _, rfl, rfl, hs.cutG 0 0⟩ }
  {
  intro ρ w Γx Λx hs hu hp
  have e680 : ρ 40 = .bool (decide (x138 < 0)) := (hp 5 rfl).1
  have e681 : ρ 48 = .bool (decide (((x7.Operations).length : Int) ≤ x263)) := (hp 13 rfl).1
  refine WL.pickF (v := .bool (decide (((x7.Operations).length : Int) ≤ x263))) (bool_tr e680 hc141) e681 ?_
  exact WL.nil ⟨rfl, _, rfl, rfl, hs.cutG 0 0⟩ }
  {
  intro ρ w Γx Λx hs hu hp
  have e682 : ρ 49 = .bool (decide (((x7.Operations).length : Int) ≤ x263)) := (hp 14 rfl).1
  refine WL.move (v := .bool (decide (((x7.Operations).length : Int) ≤ x263))) e682 ?_
  exact WL.nil ⟨rfl, _, rfl, rfl, hs.cutG 0 0⟩ }
  {
  intro ρ w Γx Λx hs hu hp
  have e683 : ρ 50 = .bool (decide (((x7.Operations).length : Int) ≤ x263)) := (hp 15 rfl).1
  refine WL.fieldAddr (m := 0) ((hu 5 rfl).trans h71_5) FA24_0 rfl ?_ (hg := (wanted_of rfl rfl (bool_tr e683 hc266)).trans rfl)
  exact WL.nil ⟨rfl, _, rfl, rfl, hs.cutG 0 0⟩ }
  {
  intro ρ w Γx Λx hs hu hp
  have e684 : ρ 51 = .pointer (some ⟨g11, 0, none⟩) := (hp 16 rfl).1
  have e685 : ρ 50 = .bool (decide (((x7.Operations).length : Int) ≤ x263)) := (hp 15 rfl).1
  refine WL.load1 (v := .slice a8 (x7.Operations).length c10) hs (Λx.length + 3) (getApp rfl) TI22 e684 rfl ?_ (hg := (wanted_of rfl rfl (bool_tr e685 hc266)).trans rfl)
  exact WL.nil ⟨rfl, _, rfl, rfl, hs.cutG 0 0⟩ }
  {
  intro ρ w Γx Λx hs hu hp
  have e686 : ρ 50 = .bool (decide (((x7.Operations).length : Int) ≤ x263)) := (hp 15 rfl).1
  refine WL.move (v := .slice a24 n25 c26) ((hu 8 rfl).trans h71_8) ?_ (hg := (wanted_of rfl rfl (bool_tr e686 hc266)).trans rfl)
  exact WL.nil ⟨rfl, _, rfl, rfl, hs.cutG 0 0⟩ }
  {
  intro ρ w Γx Λx hs hu hp
  have e687 : ρ 50 = .bool (decide (((x7.Operations).length : Int) ≤ x263)) := (hp 15 rfl).1
  refine WL.move (v := .int .i64 x72) ((hu 10 rfl).trans h71_10) ?_ (hg := (wanted_of rfl rfl (bool_tr e687 hc266)).trans rfl)
  exact WL.nil ⟨rfl, _, rfl, rfl, hs.cutG 0 0⟩ }
  {
  intro ρ w Γx Λx hs hu hp
  have e688 : ρ 53 = .slice a24 n25 c26 := (hp 18 rfl).1
  have e689 : ρ 54 = .int .i64 x72 := (hp 19 rfl).1
  have e690 : ρ 50 = .bool (decide (((x7.Operations).length : Int) ≤ x263)) := (hp 15 rfl).1
  refine WL.indexAddrO hs (Λx.length + 2) (getApp rfl) UN29 TI3 e688 e689 hxx388 (fun ad389 hatad389 => ?_) (hg := (wanted_of rfl rfl (bool_tr e690 hc266)).trans rfl)
  exact WL.nil ⟨rfl, _, rfl, ⟨ad389, rfl, hatad389⟩, hs.cutG 0 0⟩ }
  {
  intro ρ w Γx Λx hs hu hp
  obtain ⟨ad692, e691, hatad692⟩ := (hp 20 rfl).1
  have e691 : ρ 55 = .pointer (some ad692) := e691
  have e693 : ρ 50 = .bool (decide (((x7.Operations).length : Int) ≤ x263)) := (hp 15 rfl).1
  refine WL.loadO hs (Λx.length + 2) (getApp rfl) TI3 (.inr rfl) hatad692 hxx388 e691 (fun v390 hs => ?_) (hg := (wanted_of rfl rfl (bool_tr e693 hc266)).trans rfl)
  obtain rfl := hs.int 0 rfl
  exact WL.nil ⟨rfl, _, rfl, rfl, hs.cutG 0 1⟩ }
  {
  intro ρ w Γx Λx hs hu hp
  have e694 : ρ 52 = .slice a8 (x7.Operations).length c10 := (hp 17 rfl).1
  have e695 : ρ 56 = .int .i64 x388 := (hp 21 rfl).1
  have e696 : ρ 50 = .bool (decide (((x7.Operations).length : Int) ≤ x263)) := (hp 15 rfl).1
  refine WL.indexAddr hs (Γx.length + 0) (getApp rfl) UN22 TI35 e694 e695 hxx391 (fun ad392 hs => ?_) (hg := (wanted_of rfl rfl (bool_tr e696 hc266)).trans rfl)
  have hs := hs.add (it := pl t_history_Operation x391 ad392) fun ok hA => hA.get 0 rfl
  exact WL.nil ⟨rfl, _, rfl, ⟨ad392, rfl⟩, hs.cutG 1 1⟩ }
  {
  intro ρ w Γx Λx hs hu hp
  obtain ⟨⟨ad697, e698r⟩, hm699⟩ := hp 22 rfl
  have e698 : ρ 57 = .pointer (some ad697) := e698r
  rw [e698r] at hm699
  have hs := hs.memo1 (it := pl t_history_Operation x391 ad697) (List.mem_append.2 (.inl (hm699 _ (List.mem_of_getElem? (i := 0) rfl))))
  have e700 : ρ 50 = .bool (decide (((x7.Operations).length : Int) ≤ x263)) := (hp 15 rfl).1
  refine WL.fieldAddrP (z := x391.Process) F_history_Operation_Process hs 0 rfl e698 FA35_0 rfl (fun ad393 hs => ?_) (hg := (wanted_of rfl rfl (bool_tr e700 hc266)).trans rfl)
  have hs := hs.add (it := pl (tInt .i64) x391.Process ad393) fun ok hA => hA.get 0 rfl
  exact WL.nil ⟨rfl, _, rfl, ⟨ad393, rfl⟩, hs.cutG 1 2⟩ }
  {
  intro ρ w Γx Λx hs hu hp
  obtain ⟨⟨ad701, e702r⟩, hm703⟩ := hp 23 rfl
  have e702 : ρ 58 = .pointer (some ad701) := e702r
  rw [e702r] at hm703
  have hs := hs.memo1 (it := pl (tInt .i64) x391.Process ad701) (List.mem_append.2 (.inl (hm703 _ (List.mem_of_getElem? (i := 0) rfl))))
  have e704 : ρ 50 = .bool (decide (((x7.Operations).length : Int) ≤ x263)) := (hp 15 rfl).1
  refine WL.loadP hs 0 rfl TI3 (.inr rfl) e702 (fun v394 hs => ?_) (hg := (wanted_of rfl rfl (bool_tr e704 hc266)).trans rfl)
  obtain rfl := hs.int 0 rfl
  exact WL.nil ⟨rfl, _, rfl, rfl, hs.cutG 0 2⟩ }
  {
  intro ρ w Γx Λx hs hu hp
  have e705 : ρ 50 = .bool (decide (((x7.Operations).length : Int) ≤ x263)) := (hp 15 rfl).1
  refine WL.move (v := .int .i64 x21) ((hu 7 rfl).trans h71_7) ?_ (hg := (wanted_of rfl rfl (bool_tr e705 hc266)).trans rfl)
  exact WL.nil ⟨rfl, _, rfl, rfl, hs.cutG 0 0⟩ }
  {
  intro ρ w Γx Λx hs hu hp
  have e706 : ρ 59 = .int .i64 x391.Process := (hp 24 rfl).1
  have e707 : ρ 60 = .int .i64 x21 := (hp 25 rfl).1
  have e708 : ρ 50 = .bool (decide (((x7.Operations).length : Int) ≤ x263)) := (hp 15 rfl).1
  refine WL.bin (v := .bool (x391.Process != x21)) e706 e707 (ib_neq _ _ _) ?_ (hg := (wanted_of rfl rfl (bool_tr e708 hc266)).trans rfl)
  exact WL.nil ⟨rfl, _, rfl, rfl, hs.cutG 0 0⟩ }
  {
  intro ρ w Γx Λx hs hu hp
  have e709 : ρ 50 = .bool (decide (((x7.Operations).length : Int) ≤ x263)) := (hp 15 rfl).1
  have e710 : ρ 61 = .bool (x391.Process != x21) := (hp 26 rfl).1
  refine WL.pickF (v := .bool (x391.Process != x21)) (bool_tr e709 hc266) e710 ?_
  exact WL.nil ⟨rfl, _, rfl, rfl, hs.cutG 0 0⟩ }
  {
  intro ρ w Γx Λx hs hu hp
  have e711 : ρ 62 = .bool (x391.Process != x21) := (hp 27 rfl).1
  refine WL.move (v := .bool (x391.Process != x21)) e711 ?_
  exact WL.nil ⟨rfl, _, rfl, rfl, hs.cutG 0 0⟩ }
  {
  intro ρ w Γx Λx hs hu hp
  have e712 : ρ 63 = .bool (x391.Process != x21) := (hp 28 rfl).1
  refine WL.move (v := .int .i64 x72) ((hu 10 rfl).trans h71_10) ?_ (hg := (wanted_of rfl rfl (bool_tr e712 hc395)).trans rfl)
  exact WL.nil ⟨rfl, _, rfl, rfl, hs.cutG 0 0⟩ }
  {
  intro ρ w Γx Λx hs hu hp
  have e713 : ρ 64 = .int .i64 x72 := (hp 29 rfl).1
  have e714 : ρ 63 = .bool (x391.Process != x21) := (hp 28 rfl).1
  refine WL.bin (v := .bool (decide (0 < x72))) e713 rfl (ib_gtr _ _ _) ?_ (hg := (wanted_of rfl rfl (bool_tr e714 hc395)).trans rfl)
  exact WL.nil ⟨rfl, _, rfl, rfl, hs.cutG 0 0⟩ }
  {
  intro ρ w Γx Λx hs hu hp
  have e715 : ρ 65 = .bool (decide (0 < x72)) := (hp 30 rfl).1
  have e716 : ρ 63 = .bool (x391.Process != x21) := (hp 28 rfl).1
  refine WL.move (v := .bool (decide (0 < x72))) e715 ?_ (hg := (wanted_of rfl rfl (bool_tr e716 hc395)).trans rfl)
  exact WL.nil ⟨rfl, _, rfl, rfl, hs.cutG 0 0⟩ }
  {
  intro ρ w Γx Λx hs hu hp
  have e717 : ρ 66 = .bool (decide (0 < x72)) := (hp 31 rfl).1
  refine WL.pass ((wanted_of rfl rfl (bool_tr e717 hc523)).trans rfl) rfl ?_
  exact WL.nil ⟨rfl, _, rfl, rfl, hs.cutG 0 0⟩ }
  {
  intro ρ w Γx Λx hs hu hp
  have e718 : ρ 66 = .bool (decide (0 < x72)) := (hp 31 rfl).1
  refine WL.pass ((wanted_of rfl rfl (bool_tr e718 hc523)).trans rfl) rfl ?_
  exact WL.nil ⟨rfl, _, rfl, rfl, hs.cutG 0 0⟩ }
  {
  intro ρ w Γx Λx hs hu hp
  have e719 : ρ 67 = undef := (hp 32 rfl).1
  have e720 : ρ 68 = undef := (hp 33 rfl).1
  have e721 : ρ 66 = .bool (decide (0 < x72)) := (hp 31 rfl).1
  refine WL.pass ((wanted_of rfl rfl (bool_tr e721 hc523)).trans rfl) rfl ?_
  exact WL.nil ⟨rfl, _, rfl, rfl, hs.cutG 0 0⟩ }
  {
  intro ρ w Γx Λx hs hu hp
  have e722 : ρ 69 = undef := (hp 34 rfl).1
  have e723 : ρ 66 = .bool (decide (0 < x72)) := (hp 31 rfl).1
  refine WL.pass ((wanted_of rfl rfl (bool_tr e723 hc523)).trans rfl) rfl ?_
  exact WL.nil ⟨rfl, _, rfl, rfl, hs.cutG 0 0⟩ }
  {
  intro ρ w Γx Λx hs hu hp
  have e724 : ρ 66 = .bool (decide (0 < x72)) := (hp 31 rfl).1
  refine WL.pass ((wanted_of rfl rfl (bool_tr e724 hc523)).trans rfl) rfl ?_
  exact WL.nil ⟨rfl, _, rfl, rfl, hs.cutG 0 0⟩ }
  {
  intro ρ w Γx Λx hs hu hp
  have e725 : ρ 66 = .bool (decide (0 < x72)) := (hp 31 rfl).1
  refine WL.pass ((wanted_of rfl rfl (bool_tr e725 hc523)).trans rfl) rfl ?_
  exact WL.nil ⟨rfl, _, rfl, rfl, hs.cutG 0 0⟩ }
  {
  intro ρ w Γx Λx hs hu hp
  have e726 : ρ 72 = undef := (hp 37 rfl).1
  have e727 : ρ 66 = .bool (decide (0 < x72)) := (hp 31 rfl).1
  refine WL.pass ((wanted_of rfl rfl (bool_tr e727 hc523)).trans rfl) rfl ?_
  exact WL.nil ⟨rfl, _, rfl, rfl, hs.cutG 0 0⟩ }
  {
  intro ρ w Γx Λx hs hu hp
  have e728 : ρ 71 = undef := (hp 36 rfl).1
  have e729 : ρ 73 = undef := (hp 38 rfl).1
  have e730 : ρ 66 = .bool (decide (0 < x72)) := (hp 31 rfl).1
  refine WL.pass ((wanted_of rfl rfl (bool_tr e730 hc523)).trans rfl) rfl ?_
  exact WL.nil ⟨rfl, _, rfl, rfl, hs.cutG 0 0⟩ }
  {
  intro ρ w Γx Λx hs hu hp
  have e731 : ρ 74 = undef := (hp 39 rfl).1
  have e732 : ρ 66 = .bool (decide (0 < x72)) := (hp 31 rfl).1
  refine WL.pass ((wanted_of rfl rfl (bool_tr e732 hc523)).trans rfl) rfl ?_
  exact WL.nil ⟨rfl, _, rfl, rfl, hs.cutG 0 0⟩ }
  {
  intro ρ w Γx Λx hs hu hp
  have e733 : ρ 70 = undef := (hp 35 rfl).1
  have e734 : ρ 75 = undef := (hp 40 rfl).1
  have e735 : ρ 66 = .bool (decide (0 < x72)) := (hp 31 rfl).1
  refine WL.pass ((wanted_of rfl rfl (bool_tr e735 hc523)).trans rfl) rfl ?_
  exact WL.nil ⟨rfl, _, rfl, rfl, hs.cutG 0 0⟩ }
  {
  intro ρ w Γx Λx hs hu hp
  have e736 : ρ 66 = .bool (decide (0 < x72)) := (hp 31 rfl).1
  have e737 : ρ 76 = undef := (hp 41 rfl).1
  have e738 : ρ 63 = .bool (x391.Process != x21) := (hp 28 rfl).1
  refine WL.pickF (v := .bool false) (bool_tr e736 hc523) rfl ?_ (hg := (wanted_of rfl rfl (bool_tr e738 hc395)).trans rfl)
  exact WL.nil ⟨rfl, _, rfl, rfl, hs.cutG 0 0⟩ }
  {
  intro ρ w Γx Λx hs hu hp
  have e739 : ρ 63 = .bool (x391.Process != x21) := (hp 28 rfl).1
  have e740 : ρ 77 = .bool false := (hp 42 rfl).1
  refine WL.pickF (v := .bool false) (bool_tr e739 hc395) e740 ?_
  exact WL.nil ⟨rfl, _, rfl, rfl, hs.cutG 0 0⟩ }
  {
  intro ρ w hs hu741 hp
  obtain ⟨⟨⟨⟨⟨⟨⟨⟨⟨⟨⟨⟨⟨⟨⟨⟨⟨⟨⟨⟨⟨⟨⟨⟨⟨⟨⟨⟨⟨⟨⟨⟨⟨⟨⟨⟨⟨⟨⟨⟨⟨⟨⟨⟨_, hp0_⟩, hp1_⟩, hp2_⟩, hp3_⟩, hp4_⟩, hp5_⟩, hp6_⟩, hp7_⟩, hp8_⟩, hp9_⟩, hp10_⟩, hp11_⟩, hp12_⟩, hp13_⟩, hp14_⟩, hp15_⟩, hp16_⟩, hp17_⟩, hp18_⟩, hp19_⟩, hp20_⟩, hp21_⟩, hp22_⟩, hp23_⟩, hp24_⟩, hp25_⟩, hp26_⟩, hp27_⟩, hp28_⟩, hp29_⟩, hp30_⟩, hp31_⟩, hp32_⟩, hp33_⟩, hp34_⟩, hp35_⟩, hp36_⟩, hp37_⟩, hp38_⟩, hp39_⟩, hp40_⟩, hp41_⟩, hp42_⟩, hp43_⟩ := hp
  have hs : St ok (bz w0) w [pl (tInt .i64) x391.Process (adOf (ρ 58)), pl t_history_Operation x391 (adOf (ρ 57)), vl (tSlice t_history_Operation) x7.Operations (.slice a8 (x7.Operations).length c10)] [own t_history_Operation 35 (.slice a74 n76 c75) x73, blk g28 24 [.slice a74 n76 c75], own (tInt .i64) 3 (.slice a24 n25 c26) x23, blk g11 24 [.slice a8 (x7.Operations).length c10]] := hs
  have e742 : ρ 78 = .bool false := hp43_
  have e743 : ρ 77 = .bool false := hp42_
  have e744 : ρ 76 = undef := hp41_
  have e745 : ρ 75 = undef := hp40_
  have e746 : ρ 74 = undef := hp39_
  have e747 : ρ 73 = undef := hp38_
  have e748 : ρ 72 = undef := hp37_
  have e749 : ρ 71 = undef := hp36_
  have e750 : ρ 70 = undef := hp35_
  have e751 : ρ 69 = undef := hp34_
  have e752 : ρ 68 = undef := hp33_
  have e753 : ρ 67 = undef := hp32_
  have e754 : ρ 66 = .bool (decide (0 < x72)) := hp31_
  have e755 : ρ 65 = .bool (decide (0 < x72)) := hp30_
  have e756 : ρ 64 = .int .i64 x72 := hp29_
  have e757 : ρ 63 = .bool (x391.Process != x21) := hp28_
  have e758 : ρ 62 = .bool (x391.Process != x21) := hp27_
  have e759 : ρ 61 = .bool (x391.Process != x21) := hp26_
  have e760 : ρ 60 = .int .i64 x21 := hp25_
  have e761 : ρ 59 = .int .i64 x391.Process := hp24_
  obtain ⟨ad762, e763⟩ := hp23_
  have e763 : ρ 58 = .pointer (some ad762) := e763
  try rw [e763] at hs
  obtain ⟨ad764, e765⟩ := hp22_
  have e765 : ρ 57 = .pointer (some ad764) := e765
  try rw [e765] at hs
  have e766 : ρ 56 = .int .i64 x388 := hp21_
  have e767 : ρ 54 = .int .i64 x72 := hp19_
  have e768 : ρ 53 = .slice a24 n25 c26 := hp18_
  have e769 : ρ 52 = .slice a8 (x7.Operations).length c10 := hp17_
  have e770 : ρ 51 = .pointer (some ⟨g11, 0, none⟩) := hp16_
  have e771 : ρ 50 = .bool (decide (((x7.Operations).length : Int) ≤ x263)) := hp15_
  have e772 : ρ 49 = .bool (decide (((x7.Operations).length : Int) ≤ x263)) := hp14_
  have e773 : ρ 48 = .bool (decide (((x7.Operations).length : Int) ≤ x263)) := hp13_
  have e774 : ρ 47 = .int .i64 ((x7.Operations).length : Int) := hp12_
  have e775 : ρ 46 = .slice a8 (x7.Operations).length c10 := hp11_
  have e776 : ρ 45 = .pointer (some ⟨g11, 0, none⟩) := hp10_
  have e777 : ρ 44 = .int .i64 x263 := hp9_
  have e778 : ρ 42 = .int .i64 x72 := hp7_
  have e779 : ρ 41 = .slice a24 n25 c26 := hp6_
  have e780 : ρ 40 = .bool (decide (x138 < 0)) := hp5_
  have e781 : ρ 39 = .bool (decide (x138 < 0)) := hp4_
  have e782 : ρ 38 = .int .i64 x138 := hp3_
  have e783 : ρ 36 = .int .i64 x72 := hp1_
  have e784 : ρ 35 = .slice a24 n25 c26 := hp0_
  refine WA.done (by kernel_rfl) ?_
  exact Jk93 false _ _ ((hu741 5 rfl).trans h71_5) ((hu741 7 rfl).trans h71_7) ((hu741 8 rfl).trans h71_8) ((hu741 9 rfl).trans h71_9) ((hu741 10 rfl).trans h71_10) e742 ((hs.mask [true, true, true, true]).pick [2]) hf } } } } } }
  {
  refine W.cond_false (bool_tr rfl hc80) ?_
  refine W.exit ?_
  have hr := Option.some.inj hf; subst hr
  have hr := hbbs77 _ rfl; subst hr
  have hf := hfs77
  exact Jk35 x73 a74 c75 n76 _ _ h71_5 h71_7 h71_8 h71_9 ((hs.mask [true, true, true, true]).pick [0]) hf } }
end Go.Proofs.Ytbbeobiampbddaa
