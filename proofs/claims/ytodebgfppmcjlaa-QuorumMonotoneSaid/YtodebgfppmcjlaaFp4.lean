import Derived.Test.YtodebgfppmcjlaaFh
import Derived.Test.YtodebgfppmcjlaaFp0
import Derived.Test.YtodebgfppmcjlaaFp1
import Derived.Test.YtodebgfppmcjlaaFp2
import Derived.Test.YtodebgfppmcjlaaFp3
set_option linter.unusedVariables false
set_option linter.unusedSimpArgs false
namespace Go.Proofs.Ytodebgfppmcjlaa
open Go Go.RowKit Go.Proofs.YtodebgfppmcjlaaL
set_option maxRecDepth 100000
set_option maxHeartbeats 4000000
/-! elasticstore/quorum.Tolerance: function 27 -/
theorem quorum_Tolerance.calls {ok : Nat → Prop} {w0 : World} {x1 : api_View} {v2 : Value} {r : Int} (hf : quorum_Tolerance x1 = some r) (i0 : (vl t_api_View x1 v2).holds ok w0) :
    Calls Try.prog 27 #[v2] w0 fun e w' => ∃ v, e = .returned v ∧ ∃ y : Unit, v = .int .i64 r ∧ St ok (bz w0) w' [] [] := by
  unfold quorum_Tolerance at hf
  refine calls_of_W (fn := Try.f27) (N := 32) Try.func27 rfl Try.ntmps27 rfl ?_
  have hs : St ok (bz w0) w0 [vl t_api_View x1 v2] [] := St.init (All.cons i0 All.nil)
  clear i0
  obtain ⟨cs3, hl4, rfl⟩ := hs.aggv (n := 4) 0 rfl rfl rfl
  refine W.seqK fun K5 hK5 => ?_
  refine W.region ?_
  refine WL.box (vs := cs3) hs rfl rfl (fun g6 w hs => ?_)
  refine WL.assign (v := .int .i64 0) rfl ?_
  refine WL.nil ?_
  refine hK5 _ _ ?_
  refine W.seqK fun K7 hK7 => ?_
  refine W.region ?_
  refine WL.loadAll hs 0 rfl TI26 rfl hl4 ?_
  obtain ⟨x8, hxx8, hf⟩ := bindE hf
  refine WL.call (vs := [.agg cs3.toArray]) hs FN43 ⟨rfl, trivial⟩ (fun ok hA => quorum_full.calls (x1 := x1) hxx8 (hA.get 0 rfl)) ?_
  rintro _ w hs
  refine WL.assign (v := .int .u64 x8) rfl ?_
  refine WL.nil ?_
  refine hK7 _ _ ?_
  refine W.seqK fun K9 hK9 => ?_
  refine W.region ?_
  refine WL.move (v := .int .u64 x8) rfl ?_
  obtain ⟨x10, hxx10, hf⟩ := bindE hf
  refine WL.call (vs := [.int .u64 x8]) hs FN42 ⟨rfl, trivial⟩ (fun ok hA => quorum_set_size.calls (x1 := x8) hxx10) ?_
  rintro _ w hs
  refine WL.assign (v := .int .i64 x10) rfl ?_
  refine WL.nil ?_
  refine hK9 _ _ ?_
  refine W.seqK fun K11 hK11 => ?_
  have Jk14 : ∀ (x13 : Int) (ρ : Env) (w : World), ρ 4 = .int .i64 x13 → St ok (bz w0) w [] [] → quorum_Tolerance.j1 x13 = some r → K11 ρ w := by
    intro x13 ρ w h12_4 hs hf
    refine hK11 _ _ ?_
    unfold quorum_Tolerance.j1 at hf
    refine W.seqK fun K15 hK15 => ?_
    refine W.region ?_
    refine WL.move (v := .int .i64 x13) h12_4 ?_
    obtain ⟨x16, ex16, hf⟩ := letE hf
    refine WL.bin (v := .int .i64 x16) rfl rfl (ib_as ex16 (ib_sub _ _ _)) ?_
    refine WL.assign (v := .int .i64 x16) rfl ?_
    refine WL.nil ?_
    refine hK15 _ _ ?_
    refine W.ret ?_
    have hr := Option.some.inj hf; subst hr
    exact ⟨_, resOk_one rfl rfl, (), rfl, (hs.mask []).pick []⟩
  refine W.seqK fun K17 hK17 => ?_
  refine W.region ?_
  refine WL.assign (v := .int .u64 0) rfl ?_
  refine WL.nil ?_
  refine hK17 _ _ ?_
  refine W.block ?_
  obtain ⟨bs21, hbs21, hfs21⟩ := bindE hf
  refine W.loop hbs21 (fun s ρ w => match s with | (x19, x20) => ρ 1 = .pointer (some ⟨g6, 0, none⟩) ∧ ρ 3 = .int .u64 x8 ∧ ρ 4 = .int .i64 x19 ∧ ρ 5 = .int .u64 x20 ∧ St ok (bz w0) w [vl t_api_View x1 (.agg cs3.toArray)] [blk g6 26 cs3]) ⟨rfl, rfl, rfl, rfl, (hs.mask [true]).pick [0]⟩ ?_
  intro s ρ w os21 hI hf hbbs21
  obtain ⟨x19, x20⟩ := s
  obtain ⟨h18_1, h18_3, h18_4, h18_5, hs⟩ := hI
  unfold quorum_Tolerance.l1 at hf
  refine W.seqK fun K22 hK22 => ?_
  refine W.seqK fun K23 hK23 => ?_
  refine W.region ?_
  refine WL.move (v := .int .u64 x20) h18_5 ?_
  refine WL.move (v := .int .u64 x8) h18_3 ?_
  refine WL.bin (v := .bool (decide (x20 ≤ x8))) rfl rfl (ib_leq _ _ _) ?_
  refine WL.nil ?_
  refine hK23 _ _ ?_
  rcases iteE hf with ⟨hc24, hf⟩ | ⟨hc24, hf⟩
  · refine W.cond_true (bool_tr rfl hc24) ?_
    refine W.skip ?_
    refine hK22 _ _ ?_
    refine W.seqK fun K25 hK25 => ?_
    have Jk28 : ∀ (x27 : Int) (ρ : Env) (w : World), ρ 1 = .pointer (some ⟨g6, 0, none⟩) → ρ 3 = .int .u64 x8 → ρ 4 = .int .i64 x27 → ρ 5 = .int .u64 x20 → St ok (bz w0) w [vl t_api_View x1 (.agg cs3.toArray)] [blk g6 26 cs3] → quorum_Tolerance.j2 x20 x27 = some os21 → K25 ρ w := by
      intro x27 ρ w h26_1 h26_3 h26_4 h26_5 hs hf
      refine hK25 _ _ ?_
      unfold quorum_Tolerance.j2 at hf
      refine W.region ?_
      refine WL.move (v := .int .u64 x20) h26_5 ?_
      obtain ⟨x29, ex29, hf⟩ := letE hf
      refine WL.bin (v := .int .u64 x29) rfl rfl (ib_as ex29 (ib_add _ _ _)) ?_
      refine WL.assign (v := .int .u64 x29) rfl ?_
      refine WL.nil ?_
      exact ⟨_, (Option.some.inj hf).symm, h26_1, h26_3, h26_4, rfl, (hs.mask [true]).pick [0]⟩
    refine W.block ?_
    refine W.seqK fun K30 hK30 => ?_
    refine W.region ?_
    refine WL.move (v := .int .u64 x20) h18_5 ?_
    obtain ⟨x31, hxx31, hf⟩ := bindE hf
    refine WL.call (vs := [.int .u64 x20]) hs FN42 ⟨rfl, trivial⟩ (fun ok hA => quorum_set_size.calls (x1 := x20) hxx31) ?_
    rintro _ w hs
    refine WL.assign (v := .int .i64 x31) rfl ?_
    refine WL.nil ?_
    refine hK30 _ _ ?_
    refine W.seqK fun K32 hK32 => ?_
    have Jk35 : ∀ (x34 : Bool) (ρ : Env) (w : World), ρ 1 = .pointer (some ⟨g6, 0, none⟩) → ρ 3 = .int .u64 x8 → ρ 4 = .int .i64 x19 → ρ 5 = .int .u64 x20 → ρ 6 = .int .i64 x31 → ρ 28 = .bool x34 → St ok (bz w0) w [vl t_api_View x1 (.agg cs3.toArray)] [blk g6 26 cs3] → quorum_Tolerance.j3 x19 x20 x31 x34 = some os21 → K32 ρ w := by
      intro x34 ρ w h33_1 h33_3 h33_4 h33_5 h33_6 h33_28 hs hf
      refine hK32 _ _ ?_
      unfold quorum_Tolerance.j3 at hf
      rcases iteE hf with ⟨hc36, hf⟩ | ⟨hc36, hf⟩
      · refine W.cond_true (bool_tr h33_28 hc36) ?_
        refine W.region ?_
        refine WL.move (v := .int .i64 x31) h33_6 ?_
        refine WL.assign (v := .int .i64 x31) rfl ?_
        refine WL.nil ?_
        exact Jk28 x31 _ _ h33_1 h33_3 rfl h33_5 ((hs.mask [true]).pick [0]) hf
      · refine W.cond_false (bool_tr h33_28 hc36) ?_
        refine W.skip ?_
        exact Jk28 x19 _ _ h33_1 h33_3 h33_4 h33_5 ((hs.mask [true]).pick [0]) hf
    refine W.region ?_
    refine WL.move (v := .int .i64 x31) rfl ?_
    refine WL.move (v := .int .i64 x19) h18_4 ?_
    refine WL.bin (v := .bool (decide (x31 < x19))) rfl rfl (ib_lss _ _ _) ?_
    refine WL.move (v := .bool (decide (x31 < x19))) rfl ?_
    rcases iteE hf with ⟨hc37, hf⟩ | ⟨hc37, hf⟩
    · refine WL.loadAll hs 0 rfl TI26 h18_1 hl4 ?_ (hg := (wanted_of rfl rfl (bool_tr rfl hc37)).trans rfl)
      refine WL.move (v := .int .u64 x8) h18_3 ?_ (hg := (wanted_of rfl rfl (bool_tr rfl hc37)).trans rfl)
      refine WL.move (v := .int .u64 x20) h18_5 ?_ (hg := (wanted_of rfl rfl (bool_tr rfl hc37)).trans rfl)
      obtain ⟨x38, ex38, hf⟩ := letE hf
      refine WL.bin (v := .int .u64 x38) rfl rfl (ib_as ex38 (ib_andNot _ _ _)) ?_ (hg := (wanted_of rfl rfl (bool_tr rfl hc37)).trans rfl)
      obtain ⟨x39, hxx39, hf⟩ := bindE hf
      refine WL.call (vs := [.agg cs3.toArray, .int .u64 x38]) hs FN44 ⟨rfl, ⟨rfl, trivial⟩⟩ (fun ok hA => quorum_holds.calls (x1 := x1) (x5 := x38) hxx39 (hA.get 0 rfl)) ?_ (hg := (wanted_of rfl rfl (bool_tr rfl hc37)).trans rfl)
      rintro _ w hs
      refine WL.not rfl ?_ (hg := (wanted_of rfl rfl (bool_tr rfl hc37)).trans rfl)
      refine WL.pickT (v := .bool (!x39)) (bool_tr rfl hc37) rfl ?_
      refine WL.nil ?_
      exact Jk35 (!x39) _ _ h18_1 h18_3 h18_4 h18_5 rfl rfl ((hs.mask [true]).pick [0]) hf
    · refine WL.pass ((wanted_of rfl rfl (bool_tr rfl hc37)).trans rfl) rfl ?_
      refine WL.pass ((wanted_of rfl rfl (bool_tr rfl hc37)).trans rfl) rfl ?_
      refine WL.pass ((wanted_of rfl rfl (bool_tr rfl hc37)).trans rfl) rfl ?_
      refine WL.pass ((wanted_of rfl rfl (bool_tr rfl hc37)).trans rfl) rfl ?_
      refine WL.pass ((wanted_of rfl rfl (bool_tr rfl hc37)).trans rfl) rfl ?_
      refine WL.pass ((wanted_of rfl rfl (bool_tr rfl hc37)).trans rfl) rfl ?_
      refine WL.pickF (v := .bool false) (bool_tr rfl hc37) rfl ?_
      refine WL.nil ?_
      exact Jk35 false _ _ h18_1 h18_3 h18_4 h18_5 rfl rfl ((hs.mask [true]).pick [0]) hf
  · refine W.cond_false (bool_tr rfl hc24) ?_
    refine W.exit ?_
    have hr := Option.some.inj hf; subst hr
    have hr := hbbs21 _ rfl; subst hr
    have hf := hfs21
    exact Jk14 x19 _ _ h18_4 ((hs.mask []).pick []) hf
/-! elasticstore/quorum.Faulty: function 16 -/
theorem quorum_Faulty.calls {ok : Nat → Prop} {w0 : World} {x1 : api_Rule} {v2 : Value} {r : Int} (hf : quorum_Faulty x1 = some r) (i0 : (vl t_api_Rule x1 v2).holds ok w0) :
    Calls Try.prog 16 #[v2] w0 fun e w' => ∃ v, e = .returned v ∧ ∃ y : Unit, v = .int .i64 r ∧ St ok (bz w0) w' [] [] := by
  unfold quorum_Faulty at hf
  refine calls_of_W (fn := Try.f16) (N := 5) Try.func16 rfl Try.ntmps16 rfl ?_
  have hs : St ok (bz w0) w0 [vl t_api_Rule x1 v2] [] := St.init (All.cons i0 All.nil)
  clear i0
  obtain ⟨cs3, hl4, rfl⟩ := hs.aggv (n := 3) 0 rfl rfl rfl
  refine W.seqK fun K5 hK5 => ?_
  refine W.region ?_
  refine WL.box (vs := cs3) hs rfl rfl (fun g6 w hs => ?_)
  refine WL.assign (v := .int .i64 0) rfl ?_
  refine WL.nil ?_
  refine hK5 _ _ ?_
  refine W.seqK fun K7 hK7 => ?_
  refine W.region ?_
  refine WL.fieldAddr (m := 2) rfl FA23_2 rfl ?_
  refine WL.loadF (z := x1.Faulty) F_api_Rule_Faulty hs 0 rfl 0 rfl rfl TI3 (.inr rfl) rfl rfl (fun v8 hs => ?_)
  obtain rfl := hs.int 0 rfl
  refine WL.assign (v := .int .i64 x1.Faulty) rfl ?_
  refine WL.nil ?_
  refine hK7 _ _ ?_
  refine W.ret ?_
  have hr := Option.some.inj hf; subst hr
  exact ⟨_, resOk_one rfl rfl, (), rfl, (hs.mask []).pick []⟩
/-! elasticstore/elasticstorelaw04.awake: function 11 -/
theorem eslaw04_awake.calls {ok : Nat → Prop} {w0 : World}   {r : Bool} (hf : eslaw04_awake = some r)  :
    Calls Try.prog 11 #[] w0 fun e w' => ∃ v, e = .returned v ∧ ∃ y : Unit, v = .bool r ∧ St ok (bz w0) w' [] [] := by
  unfold eslaw04_awake at hf
  refine calls_of_W (fn := Try.f11) (N := 49) Try.func11 rfl Try.ntmps11 rfl ?_
  have hs : St ok (bz w0) w0 [] [] := St.init All.nil
  refine W.seqK fun K1 hK1 => ?_
  refine W.region ?_
  refine WL.assign (v := .bool false) rfl ?_
  refine WL.nil ?_
  refine hK1 _ _ ?_
  refine W.seqK fun K2 hK2 => ?_
  refine W.region ?_
  refine WL.build (vs := [(0, .int .i64 1), (1, .int .i64 1)]) (cs := [.int .i64 1, .int .i64 1]) ⟨⟨rfl, rfl⟩, ⟨⟨rfl, rfl⟩, trivial⟩⟩ (bld PL44 rfl) ?_
  refine WL.build (vs := [(0, .int .i64 2), (1, .int .i64 1)]) (cs := [.int .i64 2, .int .i64 1]) ⟨⟨rfl, rfl⟩, ⟨⟨rfl, rfl⟩, trivial⟩⟩ (bld PL44 rfl) ?_
  refine WL.build (vs := [(0, .int .i64 3), (1, .int .i64 1)]) (cs := [.int .i64 3, .int .i64 1]) ⟨⟨rfl, rfl⟩, ⟨⟨rfl, rfl⟩, trivial⟩⟩ (bld PL44 rfl) ?_
  refine WL.build (vs := [(0, .int .i64 4), (1, .int .i64 1)]) (cs := [.int .i64 4, .int .i64 1]) ⟨⟨rfl, rfl⟩, ⟨⟨rfl, rfl⟩, trivial⟩⟩ (bld PL44 rfl) ?_
  refine WL.buildSlice (n := 4) (vs := [(0, .agg ([.int .i64 1, .int .i64 1] : List Value).toArray), (1, .agg ([.int .i64 2, .int .i64 1] : List Value).toArray), (2, .agg ([.int .i64 3, .int .i64 1] : List Value).toArray), (3, .agg ([.int .i64 4, .int .i64 1] : List Value).toArray)]) (cs := [.int .i64 1, .int .i64 1, .int .i64 2, .int .i64 1, .int .i64 3, .int .i64 1, .int .i64 4, .int .i64 1]) hs ⟨⟨rfl, rfl⟩, ⟨⟨rfl, rfl⟩, ⟨⟨rfl, rfl⟩, ⟨⟨rfl, rfl⟩, trivial⟩⟩⟩⟩ (bls PS24 (by decide) rfl) (fun g3 w hs => ?_)
  refine WL.build (vs := [(0, .int .i64 3), (1, .int .i64 2)]) (cs := [.int .i64 3, .int .i64 2, .int .i64 0]) ⟨⟨rfl, rfl⟩, ⟨⟨rfl, rfl⟩, trivial⟩⟩ (bld PL23 rfl) ?_
  refine WL.build (vs := [(0, .slice (some ⟨g3, 0, none⟩) ([(⟨1, 1⟩ : api_Member), (⟨2, 1⟩ : api_Member), (⟨3, 1⟩ : api_Member), (⟨4, 1⟩ : api_Member)]).length 4), (1, .agg ([.int .i64 3, .int .i64 2, .int .i64 0] : List Value).toArray)]) (cs := [.slice (some ⟨g3, 0, none⟩) ([(⟨1, 1⟩ : api_Member), (⟨2, 1⟩ : api_Member), (⟨3, 1⟩ : api_Member), (⟨4, 1⟩ : api_Member)]).length 4, .int .i64 3, .int .i64 2, .int .i64 0]) ⟨⟨rfl, rfl⟩, ⟨⟨rfl, rfl⟩, trivial⟩⟩ (bld PL26 rfl) ?_
  refine WL.alloc hs ZV26 (fun g4 w hs => ?_)
  refine WL.storeAll (vs := [.slice (some ⟨g3, 0, none⟩) ([(⟨1, 1⟩ : api_Member), (⟨2, 1⟩ : api_Member), (⟨3, 1⟩ : api_Member), (⟨4, 1⟩ : api_Member)]).length 4, .int .i64 3, .int .i64 2, .int .i64 0]) hs 0 rfl TI26 rfl rfl rfl rfl (ones_of rfl) rfl (fun w hs => ?_)
  refine WL.nil ?_
  refine hK2 _ _ ?_
  refine W.seqK fun K5 hK5 => ?_
  refine W.region ?_
  refine WL.loadN (vs := [.slice (some ⟨g3, 0, none⟩) ([(⟨1, 1⟩ : api_Member), (⟨2, 1⟩ : api_Member), (⟨3, 1⟩ : api_Member), (⟨4, 1⟩ : api_Member)]).length 4, .int .i64 3, .int .i64 2, .int .i64 0]) hs 0 rfl TI26 rfl rfl rfl ?_
  refine WL.alloc hs ZV26 (fun g6 w hs => ?_)
  refine WL.storeAll (vs := [.slice (some ⟨g3, 0, none⟩) ([(⟨1, 1⟩ : api_Member), (⟨2, 1⟩ : api_Member), (⟨3, 1⟩ : api_Member), (⟨4, 1⟩ : api_Member)]).length 4, .int .i64 3, .int .i64 2, .int .i64 0]) hs 0 rfl TI26 rfl rfl rfl rfl (ones_of rfl) rfl (fun w hs => ?_)
  refine WL.nil ?_
  refine hK5 _ _ ?_
  refine W.seqK fun K7 hK7 => ?_
  refine W.region ?_
  refine WL.build (vs := [(0, .int .i64 4), (2, .int .i64 1)]) (cs := [.int .i64 4, .int .i64 0, .int .i64 1]) ⟨⟨rfl, rfl⟩, ⟨⟨rfl, rfl⟩, trivial⟩⟩ (bld PL23 rfl) ?_
  refine WL.fieldAddr (m := 1) rfl FA26_1 rfl ?_
  refine WL.store (vs := [.int .i64 4, .int .i64 0, .int .i64 1]) (cs' := [.slice (some ⟨g3, 0, none⟩) ([(⟨1, 1⟩ : api_Member), (⟨2, 1⟩ : api_Member), (⟨3, 1⟩ : api_Member), (⟨4, 1⟩ : api_Member)]).length 4, .int .i64 4, .int .i64 0, .int .i64 1]) hs 0 rfl TI23 rfl rfl rfl rfl (ones_of rfl) (Nat.le_of_ble_eq_true rfl) rfl (fun w hs => ?_)
  refine WL.nil ?_
  refine hK7 _ _ ?_
  refine W.seqK fun K8 hK8 => ?_
  have Jk11 : ∀ (x10 : Bool) (ρ : Env) (w : World), ρ 0 = .bool x10 → St ok (bz w0) w [] [] → eslaw04_awake.j1 x10 = some r → K8 ρ w := by
    intro x10 ρ w h9_0 hs hf
    refine hK8 _ _ ?_
    unfold eslaw04_awake.j1 at hf
    refine W.ret ?_
    have hr := Option.some.inj hf; subst hr
    exact ⟨_, resOk_one rfl h9_0, (), rfl, (hs.mask []).pick []⟩
  refine W.region ?_
  refine WL.loadN (vs := [.slice (some ⟨g3, 0, none⟩) ([(⟨1, 1⟩ : api_Member), (⟨2, 1⟩ : api_Member), (⟨3, 1⟩ : api_Member), (⟨4, 1⟩ : api_Member)]).length 4, .int .i64 3, .int .i64 2, .int .i64 0]) hs 1 rfl TI26 rfl rfl rfl ?_
  refine WL.buildSlice (n := 3) (vs := [(0, .int .i64 1), (1, .int .i64 2), (2, .int .i64 3)]) (cs := [.int .i64 1, .int .i64 2, .int .i64 3]) hs ⟨⟨rfl, rfl⟩, ⟨⟨rfl, rfl⟩, ⟨⟨rfl, rfl⟩, trivial⟩⟩⟩ (bls PS33 (by decide) rfl) (fun g12 w hs => ?_)
  have hs := hs.ownLit (A := t_api_Member) (xs := [(⟨1, 1⟩ : api_Member), (⟨2, 1⟩ : api_Member), (⟨3, 1⟩ : api_Member), (⟨4, 1⟩ : api_Member)]) 3 rfl (fun ok hA => (Cells.app (Cells.one (T := t_api_Member) (show t_api_Member.R ok _ (⟨1, 1⟩ : api_Member) _ from ⟨[.int .i64 1], [.int .i64 1], rfl, rfl, rfl⟩)) (Cells.app (Cells.one (T := t_api_Member) (show t_api_Member.R ok _ (⟨2, 1⟩ : api_Member) _ from ⟨[.int .i64 2], [.int .i64 1], rfl, rfl, rfl⟩)) (Cells.app (Cells.one (T := t_api_Member) (show t_api_Member.R ok _ (⟨3, 1⟩ : api_Member) _ from ⟨[.int .i64 3], [.int .i64 1], rfl, rfl, rfl⟩)) (Cells.one (T := t_api_Member) (show t_api_Member.R ok _ (⟨4, 1⟩ : api_Member) _ from ⟨[.int .i64 4], [.int .i64 1], rfl, rfl, rfl⟩)))))) (Nat.le_of_ble_eq_true rfl)
  have hs := hs.freezeOwn 3 rfl
  have hs := hs.add (it := vl t_api_View (⟨[(⟨1, 1⟩ : api_Member), (⟨2, 1⟩ : api_Member), (⟨3, 1⟩ : api_Member), (⟨4, 1⟩ : api_Member)], (⟨3, 2, 0⟩ : api_Rule)⟩ : api_View) (.agg ([.slice (some ⟨g3, 0, none⟩) ([(⟨1, 1⟩ : api_Member), (⟨2, 1⟩ : api_Member), (⟨3, 1⟩ : api_Member), (⟨4, 1⟩ : api_Member)]).length 4, .int .i64 3, .int .i64 2, .int .i64 0]).toArray)) fun ok hA => V_agg (show t_api_View.R ok _ _ _ from ⟨([.slice (some ⟨g3, 0, none⟩) ([(⟨1, 1⟩ : api_Member), (⟨2, 1⟩ : api_Member), (⟨3, 1⟩ : api_Member), (⟨4, 1⟩ : api_Member)]).length 4]), [.int .i64 3, .int .i64 2, .int .i64 0], rfl, (R_one (hA.get 0 rfl)), ⟨[.int .i64 3], [.int .i64 2, .int .i64 0], rfl, rfl, ⟨[.int .i64 2], [.int .i64 0], rfl, rfl, rfl⟩⟩⟩) rfl
  have hs := hs.ownLit (A := tInt .i64) (xs := [1, 2, 3]) 0 rfl (fun ok hA => (Cells.app (Cells.one (T := tInt .i64) rfl) (Cells.app (Cells.one (T := tInt .i64) rfl) (Cells.one (T := tInt .i64) rfl)))) (Nat.le_of_ble_eq_true rfl)
  have hs := hs.freezeOwn 0 rfl
  obtain ⟨x13, hxx13, hf⟩ := bindE hf
  refine WL.call (vs := [.agg ([.slice (some ⟨g3, 0, none⟩) ([(⟨1, 1⟩ : api_Member), (⟨2, 1⟩ : api_Member), (⟨3, 1⟩ : api_Member), (⟨4, 1⟩ : api_Member)]).length 4, .int .i64 3, .int .i64 2, .int .i64 0] : List Value).toArray, .slice (some ⟨g12, 0, none⟩) ([1, 2, 3]).length 3]) hs FN18 ⟨rfl, ⟨rfl, trivial⟩⟩ (fun ok hA => quorum_IsQuorum.calls (x1 := (⟨[(⟨1, 1⟩ : api_Member), (⟨2, 1⟩ : api_Member), (⟨3, 1⟩ : api_Member), (⟨4, 1⟩ : api_Member)], (⟨3, 2, 0⟩ : api_Rule)⟩ : api_View)) (x5 := [1, 2, 3]) hxx13 (hA.get 1 rfl) (hA.get 0 rfl)) ?_
  rintro _ w hs
  refine WL.move (v := .bool x13) rfl ?_
  rcases iteE hf with ⟨hc14, hf⟩ | ⟨hc14, hf⟩
  · refine WL.loadN (vs := [.slice (some ⟨g3, 0, none⟩) ([(⟨1, 1⟩ : api_Member), (⟨2, 1⟩ : api_Member), (⟨3, 1⟩ : api_Member), (⟨4, 1⟩ : api_Member)]).length 4, .int .i64 3, .int .i64 2, .int .i64 0]) hs 1 rfl TI26 rfl rfl rfl ?_ (hg := (wanted_of rfl rfl (bool_tr rfl hc14)).trans rfl)
    refine WL.buildSlice (n := 2) (vs := [(0, .int .i64 1), (1, .int .i64 2)]) (cs := [.int .i64 1, .int .i64 2]) hs ⟨⟨rfl, rfl⟩, ⟨⟨rfl, rfl⟩, trivial⟩⟩ (bls PS33 (by decide) rfl) (fun g15 w hs => ?_) (hg := (wanted_of rfl rfl (bool_tr rfl hc14)).trans rfl)
    have hs := hs.add (it := vl t_api_View (⟨[(⟨1, 1⟩ : api_Member), (⟨2, 1⟩ : api_Member), (⟨3, 1⟩ : api_Member), (⟨4, 1⟩ : api_Member)], (⟨3, 2, 0⟩ : api_Rule)⟩ : api_View) (.agg ([.slice (some ⟨g3, 0, none⟩) ([(⟨1, 1⟩ : api_Member), (⟨2, 1⟩ : api_Member), (⟨3, 1⟩ : api_Member), (⟨4, 1⟩ : api_Member)]).length 4, .int .i64 3, .int .i64 2, .int .i64 0]).toArray)) fun ok hA => V_agg (show t_api_View.R ok _ _ _ from ⟨([.slice (some ⟨g3, 0, none⟩) ([(⟨1, 1⟩ : api_Member), (⟨2, 1⟩ : api_Member), (⟨3, 1⟩ : api_Member), (⟨4, 1⟩ : api_Member)]).length 4]), [.int .i64 3, .int .i64 2, .int .i64 0], rfl, (R_one (hA.get 2 rfl)), ⟨[.int .i64 3], [.int .i64 2, .int .i64 0], rfl, rfl, ⟨[.int .i64 2], [.int .i64 0], rfl, rfl, rfl⟩⟩⟩) rfl
    have hs := hs.ownLit (A := tInt .i64) (xs := [1, 2]) 0 rfl (fun ok hA => (Cells.app (Cells.one (T := tInt .i64) rfl) (Cells.one (T := tInt .i64) rfl))) (Nat.le_of_ble_eq_true rfl)
    have hs := hs.freezeOwn 0 rfl
    obtain ⟨x16, hxx16, hf⟩ := bindE hf
    refine WL.call (vs := [.agg ([.slice (some ⟨g3, 0, none⟩) ([(⟨1, 1⟩ : api_Member), (⟨2, 1⟩ : api_Member), (⟨3, 1⟩ : api_Member), (⟨4, 1⟩ : api_Member)]).length 4, .int .i64 3, .int .i64 2, .int .i64 0] : List Value).toArray, .slice (some ⟨g15, 0, none⟩) ([1, 2]).length 2]) hs FN18 ⟨rfl, ⟨rfl, trivial⟩⟩ (fun ok hA => quorum_IsQuorum.calls (x1 := (⟨[(⟨1, 1⟩ : api_Member), (⟨2, 1⟩ : api_Member), (⟨3, 1⟩ : api_Member), (⟨4, 1⟩ : api_Member)], (⟨3, 2, 0⟩ : api_Rule)⟩ : api_View)) (x5 := [1, 2]) hxx16 (hA.get 1 rfl) (hA.get 0 rfl)) ?_ (hg := (wanted_of rfl rfl (bool_tr rfl hc14)).trans rfl)
    rintro _ w hs
    refine WL.not rfl ?_ (hg := (wanted_of rfl rfl (bool_tr rfl hc14)).trans rfl)
    refine WL.pickT (v := .bool (!x16)) (bool_tr rfl hc14) rfl ?_
    refine WL.move (v := .bool (!x16)) rfl ?_
    rcases iteE hf with ⟨hc17, hf⟩ | ⟨hc17, hf⟩
    · refine WL.loadN (vs := [.slice (some ⟨g3, 0, none⟩) ([(⟨1, 1⟩ : api_Member), (⟨2, 1⟩ : api_Member), (⟨3, 1⟩ : api_Member), (⟨4, 1⟩ : api_Member)]).length 4, .int .i64 4, .int .i64 0, .int .i64 1]) hs 0 rfl TI26 rfl rfl rfl ?_ (hg := (wanted_of rfl rfl (bool_tr rfl hc17)).trans rfl)
      have hs := hs.add (it := vl t_api_View (⟨[(⟨1, 1⟩ : api_Member), (⟨2, 1⟩ : api_Member), (⟨3, 1⟩ : api_Member), (⟨4, 1⟩ : api_Member)], (⟨4, 0, 1⟩ : api_Rule)⟩ : api_View) (.agg ([.slice (some ⟨g3, 0, none⟩) ([(⟨1, 1⟩ : api_Member), (⟨2, 1⟩ : api_Member), (⟨3, 1⟩ : api_Member), (⟨4, 1⟩ : api_Member)]).length 4, .int .i64 4, .int .i64 0, .int .i64 1]).toArray)) fun ok hA => V_agg (show t_api_View.R ok _ _ _ from ⟨([.slice (some ⟨g3, 0, none⟩) ([(⟨1, 1⟩ : api_Member), (⟨2, 1⟩ : api_Member), (⟨3, 1⟩ : api_Member), (⟨4, 1⟩ : api_Member)]).length 4]), [.int .i64 4, .int .i64 0, .int .i64 1], rfl, (R_one (hA.get 4 rfl)), ⟨[.int .i64 4], [.int .i64 0, .int .i64 1], rfl, rfl, ⟨[.int .i64 0], [.int .i64 1], rfl, rfl, rfl⟩⟩⟩) rfl
      obtain ⟨x18, hxx18, hf⟩ := bindE hf
      refine WL.call (vs := [.agg ([.slice (some ⟨g3, 0, none⟩) ([(⟨1, 1⟩ : api_Member), (⟨2, 1⟩ : api_Member), (⟨3, 1⟩ : api_Member), (⟨4, 1⟩ : api_Member)]).length 4, .int .i64 4, .int .i64 0, .int .i64 1] : List Value).toArray]) hs FN20 ⟨rfl, trivial⟩ (fun ok hA => quorum_Minimal.calls (x1 := (⟨[(⟨1, 1⟩ : api_Member), (⟨2, 1⟩ : api_Member), (⟨3, 1⟩ : api_Member), (⟨4, 1⟩ : api_Member)], (⟨4, 0, 1⟩ : api_Rule)⟩ : api_View)) hxx18 (hA.get 0 rfl)) ?_ (hg := (wanted_of rfl rfl (bool_tr rfl hc17)).trans rfl)
      rintro ⟨a19, n20, c21⟩ w hs
      refine WL.len (v := .slice a19 n20 c21) rfl (len_own hs 0 rfl UN36) ?_ (hg := (wanted_of rfl rfl (bool_tr rfl hc17)).trans rfl)
      refine WL.bin (v := .bool ((x18.length : Int) == 4)) rfl rfl (ib_eql _ _ _) ?_ (hg := (wanted_of rfl rfl (bool_tr rfl hc17)).trans rfl)
      refine WL.pickT (v := .bool ((x18.length : Int) == 4)) (bool_tr rfl hc17) rfl ?_
      refine WL.move (v := .bool ((x18.length : Int) == 4)) rfl ?_
      rcases iteE hf with ⟨hc22, hf⟩ | ⟨hc22, hf⟩
      · refine WL.loadN (vs := [.slice (some ⟨g3, 0, none⟩) ([(⟨1, 1⟩ : api_Member), (⟨2, 1⟩ : api_Member), (⟨3, 1⟩ : api_Member), (⟨4, 1⟩ : api_Member)]).length 4, .int .i64 4, .int .i64 0, .int .i64 1]) hs 1 rfl TI26 rfl rfl rfl ?_ (hg := (wanted_of rfl rfl (bool_tr rfl hc22)).trans rfl)
        have hs := hs.add (it := vl t_api_View (⟨[(⟨1, 1⟩ : api_Member), (⟨2, 1⟩ : api_Member), (⟨3, 1⟩ : api_Member), (⟨4, 1⟩ : api_Member)], (⟨4, 0, 1⟩ : api_Rule)⟩ : api_View) (.agg ([.slice (some ⟨g3, 0, none⟩) ([(⟨1, 1⟩ : api_Member), (⟨2, 1⟩ : api_Member), (⟨3, 1⟩ : api_Member), (⟨4, 1⟩ : api_Member)]).length 4, .int .i64 4, .int .i64 0, .int .i64 1]).toArray)) fun ok hA => V_agg (show t_api_View.R ok _ _ _ from ⟨([.slice (some ⟨g3, 0, none⟩) ([(⟨1, 1⟩ : api_Member), (⟨2, 1⟩ : api_Member), (⟨3, 1⟩ : api_Member), (⟨4, 1⟩ : api_Member)]).length 4]), [.int .i64 4, .int .i64 0, .int .i64 1], rfl, (R_one (hA.get 5 rfl)), ⟨[.int .i64 4], [.int .i64 0, .int .i64 1], rfl, rfl, ⟨[.int .i64 0], [.int .i64 1], rfl, rfl, rfl⟩⟩⟩) rfl
        obtain ⟨x23, hxx23, hf⟩ := bindE hf
        refine WL.call (vs := [.agg ([.slice (some ⟨g3, 0, none⟩) ([(⟨1, 1⟩ : api_Member), (⟨2, 1⟩ : api_Member), (⟨3, 1⟩ : api_Member), (⟨4, 1⟩ : api_Member)]).length 4, .int .i64 4, .int .i64 0, .int .i64 1] : List Value).toArray]) hs FN25 ⟨rfl, trivial⟩ (fun ok hA => quorum_Overlap.calls (x1 := (⟨[(⟨1, 1⟩ : api_Member), (⟨2, 1⟩ : api_Member), (⟨3, 1⟩ : api_Member), (⟨4, 1⟩ : api_Member)], (⟨4, 0, 1⟩ : api_Rule)⟩ : api_View)) hxx23 (hA.get 0 rfl)) ?_ (hg := (wanted_of rfl rfl (bool_tr rfl hc22)).trans rfl)
        rintro _ w hs
        refine WL.bin (v := .bool (x23 == 2)) rfl rfl (ib_eql _ _ _) ?_ (hg := (wanted_of rfl rfl (bool_tr rfl hc22)).trans rfl)
        refine WL.pickT (v := .bool (x23 == 2)) (bool_tr rfl hc22) rfl ?_
        refine WL.move (v := .bool (x23 == 2)) rfl ?_
        rcases iteE hf with ⟨hc24, hf⟩ | ⟨hc24, hf⟩
        · refine WL.loadN (vs := [.slice (some ⟨g3, 0, none⟩) ([(⟨1, 1⟩ : api_Member), (⟨2, 1⟩ : api_Member), (⟨3, 1⟩ : api_Member), (⟨4, 1⟩ : api_Member)]).length 4, .int .i64 4, .int .i64 0, .int .i64 1]) hs 1 rfl TI26 rfl rfl rfl ?_ (hg := (wanted_of rfl rfl (bool_tr rfl hc24)).trans rfl)
          have hs := hs.add (it := vl t_api_View (⟨[(⟨1, 1⟩ : api_Member), (⟨2, 1⟩ : api_Member), (⟨3, 1⟩ : api_Member), (⟨4, 1⟩ : api_Member)], (⟨4, 0, 1⟩ : api_Rule)⟩ : api_View) (.agg ([.slice (some ⟨g3, 0, none⟩) ([(⟨1, 1⟩ : api_Member), (⟨2, 1⟩ : api_Member), (⟨3, 1⟩ : api_Member), (⟨4, 1⟩ : api_Member)]).length 4, .int .i64 4, .int .i64 0, .int .i64 1]).toArray)) fun ok hA => V_agg (show t_api_View.R ok _ _ _ from ⟨([.slice (some ⟨g3, 0, none⟩) ([(⟨1, 1⟩ : api_Member), (⟨2, 1⟩ : api_Member), (⟨3, 1⟩ : api_Member), (⟨4, 1⟩ : api_Member)]).length 4]), [.int .i64 4, .int .i64 0, .int .i64 1], rfl, (R_one (hA.get 6 rfl)), ⟨[.int .i64 4], [.int .i64 0, .int .i64 1], rfl, rfl, ⟨[.int .i64 0], [.int .i64 1], rfl, rfl, rfl⟩⟩⟩) rfl
          obtain ⟨x25, hxx25, hf⟩ := bindE hf
          refine WL.call (vs := [.agg ([.slice (some ⟨g3, 0, none⟩) ([(⟨1, 1⟩ : api_Member), (⟨2, 1⟩ : api_Member), (⟨3, 1⟩ : api_Member), (⟨4, 1⟩ : api_Member)]).length 4, .int .i64 4, .int .i64 0, .int .i64 1] : List Value).toArray]) hs FN27 ⟨rfl, trivial⟩ (fun ok hA => quorum_Tolerance.calls (x1 := (⟨[(⟨1, 1⟩ : api_Member), (⟨2, 1⟩ : api_Member), (⟨3, 1⟩ : api_Member), (⟨4, 1⟩ : api_Member)], (⟨4, 0, 1⟩ : api_Rule)⟩ : api_View)) hxx25 (hA.get 0 rfl)) ?_ (hg := (wanted_of rfl rfl (bool_tr rfl hc24)).trans rfl)
          rintro _ w hs
          refine WL.bin (v := .bool (x25 == 1)) rfl rfl (ib_eql _ _ _) ?_ (hg := (wanted_of rfl rfl (bool_tr rfl hc24)).trans rfl)
          refine WL.pickT (v := .bool (x25 == 1)) (bool_tr rfl hc24) rfl ?_
          refine WL.move (v := .bool (x25 == 1)) rfl ?_
          rcases iteE hf with ⟨hc26, hf⟩ | ⟨hc26, hf⟩
          · refine WL.build (vs := []) (cs := [.int .i64 0, .int .i64 0, .int .i64 0]) trivial (bld PL23 rfl) ?_ (hg := (wanted_of rfl rfl (bool_tr rfl hc26)).trans rfl)
            have hs := hs.add (it := vl t_api_Rule (⟨0, 0, 0⟩ : api_Rule) (.agg [.int .i64 0, .int .i64 0, .int .i64 0].toArray)) fun ok hA => V_agg (show t_api_Rule.R ok _ _ _ from ⟨[.int .i64 0], [.int .i64 0, .int .i64 0], rfl, rfl, ⟨[.int .i64 0], [.int .i64 0], rfl, rfl, rfl⟩⟩) rfl
            obtain ⟨x27, hxx27, hf⟩ := bindE hf
            refine WL.call (vs := [.agg ([.int .i64 0, .int .i64 0, .int .i64 0] : List Value).toArray]) hs FN12 ⟨rfl, trivial⟩ (fun ok hA => quorum_ValidateRule.calls (x1 := (⟨0, 0, 0⟩ : api_Rule)) hxx27 (hA.get 0 rfl)) ?_ (hg := (wanted_of rfl rfl (bool_tr rfl hc26)).trans rfl)
            rintro _ w hs
            refine WL.bin (v := .bool (x27 == 10)) rfl rfl (ib_eql _ _ _) ?_ (hg := (wanted_of rfl rfl (bool_tr rfl hc26)).trans rfl)
            refine WL.pickT (v := .bool (x27 == 10)) (bool_tr rfl hc26) rfl ?_
            refine WL.move (v := .bool (x27 == 10)) rfl ?_
            rcases iteE hf with ⟨hc28, hf⟩ | ⟨hc28, hf⟩
            · refine WL.fieldAddr (m := 1) rfl FA26_1 rfl ?_ (hg := (wanted_of rfl rfl (bool_tr rfl hc28)).trans rfl)
              refine WL.loadN (vs := [.int .i64 4, .int .i64 0, .int .i64 1]) hs 1 rfl TI23 rfl rfl rfl ?_ (hg := (wanted_of rfl rfl (bool_tr rfl hc28)).trans rfl)
              have hs := hs.add (it := vl t_api_Rule (⟨4, 0, 1⟩ : api_Rule) (.agg [.int .i64 4, .int .i64 0, .int .i64 1].toArray)) fun ok hA => V_agg (show t_api_Rule.R ok _ _ _ from ⟨[.int .i64 4], [.int .i64 0, .int .i64 1], rfl, rfl, ⟨[.int .i64 0], [.int .i64 1], rfl, rfl, rfl⟩⟩) rfl
              obtain ⟨x29, hxx29, hf⟩ := bindE hf
              refine WL.call (vs := [.agg ([.int .i64 4, .int .i64 0, .int .i64 1] : List Value).toArray]) hs FN16 ⟨rfl, trivial⟩ (fun ok hA => quorum_Faulty.calls (x1 := (⟨4, 0, 1⟩ : api_Rule)) hxx29 (hA.get 0 rfl)) ?_ (hg := (wanted_of rfl rfl (bool_tr rfl hc28)).trans rfl)
              rintro _ w hs
              refine WL.bin (v := .bool (x29 == 1)) rfl rfl (ib_eql _ _ _) ?_ (hg := (wanted_of rfl rfl (bool_tr rfl hc28)).trans rfl)
              refine WL.pickT (v := .bool (x29 == 1)) (bool_tr rfl hc28) rfl ?_
              refine WL.assign (v := .bool (x29 == 1)) rfl ?_
              refine WL.nil ?_
              exact Jk11 (x29 == 1) _ _ rfl ((hs.mask []).pick []) hf
            · refine WL.pass ((wanted_of rfl rfl (bool_tr rfl hc28)).trans rfl) rfl ?_
              refine WL.pass ((wanted_of rfl rfl (bool_tr rfl hc28)).trans rfl) rfl ?_
              refine WL.pass ((wanted_of rfl rfl (bool_tr rfl hc28)).trans rfl) rfl ?_
              refine WL.pass ((wanted_of rfl rfl (bool_tr rfl hc28)).trans rfl) rfl ?_
              refine WL.pickF (v := .bool false) (bool_tr rfl hc28) rfl ?_
              refine WL.assign (v := .bool false) rfl ?_
              refine WL.nil ?_
              exact Jk11 false _ _ rfl ((hs.mask []).pick []) hf
          · refine WL.pass ((wanted_of rfl rfl (bool_tr rfl hc26)).trans rfl) rfl ?_
            refine WL.pass ((wanted_of rfl rfl (bool_tr rfl hc26)).trans rfl) rfl ?_
            refine WL.pass ((wanted_of rfl rfl (bool_tr rfl hc26)).trans rfl) rfl ?_
            refine WL.pickF (v := .bool false) (bool_tr rfl hc26) rfl ?_
            refine WL.move (v := .bool false) rfl ?_
            refine WL.pass ((wanted_of rfl rfl rfl).trans rfl) rfl ?_
            refine WL.pass ((wanted_of rfl rfl rfl).trans rfl) rfl ?_
            refine WL.pass ((wanted_of rfl rfl rfl).trans rfl) rfl ?_
            refine WL.pass ((wanted_of rfl rfl rfl).trans rfl) rfl ?_
            refine WL.pickF (v := .bool false) rfl rfl ?_
            refine WL.assign (v := .bool false) rfl ?_
            refine WL.nil ?_
            exact Jk11 false _ _ rfl ((hs.mask []).pick []) hf
        · refine WL.pass ((wanted_of rfl rfl (bool_tr rfl hc24)).trans rfl) rfl ?_
          refine WL.pass ((wanted_of rfl rfl (bool_tr rfl hc24)).trans rfl) rfl ?_
          refine WL.pass ((wanted_of rfl rfl (bool_tr rfl hc24)).trans rfl) rfl ?_
          refine WL.pickF (v := .bool false) (bool_tr rfl hc24) rfl ?_
          refine WL.move (v := .bool false) rfl ?_
          refine WL.pass ((wanted_of rfl rfl rfl).trans rfl) rfl ?_
          refine WL.pass ((wanted_of rfl rfl rfl).trans rfl) rfl ?_
          refine WL.pass ((wanted_of rfl rfl rfl).trans rfl) rfl ?_
          refine WL.pickF (v := .bool false) rfl rfl ?_
          refine WL.move (v := .bool false) rfl ?_
          refine WL.pass ((wanted_of rfl rfl rfl).trans rfl) rfl ?_
          refine WL.pass ((wanted_of rfl rfl rfl).trans rfl) rfl ?_
          refine WL.pass ((wanted_of rfl rfl rfl).trans rfl) rfl ?_
          refine WL.pass ((wanted_of rfl rfl rfl).trans rfl) rfl ?_
          refine WL.pickF (v := .bool false) rfl rfl ?_
          refine WL.assign (v := .bool false) rfl ?_
          refine WL.nil ?_
          exact Jk11 false _ _ rfl ((hs.mask []).pick []) hf
      · refine WL.pass ((wanted_of rfl rfl (bool_tr rfl hc22)).trans rfl) rfl ?_
        refine WL.pass ((wanted_of rfl rfl (bool_tr rfl hc22)).trans rfl) rfl ?_
        refine WL.pass ((wanted_of rfl rfl (bool_tr rfl hc22)).trans rfl) rfl ?_
        refine WL.pickF (v := .bool false) (bool_tr rfl hc22) rfl ?_
        refine WL.move (v := .bool false) rfl ?_
        refine WL.pass ((wanted_of rfl rfl rfl).trans rfl) rfl ?_
        refine WL.pass ((wanted_of rfl rfl rfl).trans rfl) rfl ?_
        refine WL.pass ((wanted_of rfl rfl rfl).trans rfl) rfl ?_
        refine WL.pickF (v := .bool false) rfl rfl ?_
        refine WL.move (v := .bool false) rfl ?_
        refine WL.pass ((wanted_of rfl rfl rfl).trans rfl) rfl ?_
        refine WL.pass ((wanted_of rfl rfl rfl).trans rfl) rfl ?_
        refine WL.pass ((wanted_of rfl rfl rfl).trans rfl) rfl ?_
        refine WL.pickF (v := .bool false) rfl rfl ?_
        refine WL.move (v := .bool false) rfl ?_
        refine WL.pass ((wanted_of rfl rfl rfl).trans rfl) rfl ?_
        refine WL.pass ((wanted_of rfl rfl rfl).trans rfl) rfl ?_
        refine WL.pass ((wanted_of rfl rfl rfl).trans rfl) rfl ?_
        refine WL.pass ((wanted_of rfl rfl rfl).trans rfl) rfl ?_
        refine WL.pickF (v := .bool false) rfl rfl ?_
        refine WL.assign (v := .bool false) rfl ?_
        refine WL.nil ?_
        exact Jk11 false _ _ rfl ((hs.mask []).pick []) hf
    · refine WL.pass ((wanted_of rfl rfl (bool_tr rfl hc17)).trans rfl) rfl ?_
      refine WL.pass ((wanted_of rfl rfl (bool_tr rfl hc17)).trans rfl) rfl ?_
      refine WL.pass ((wanted_of rfl rfl (bool_tr rfl hc17)).trans rfl) rfl ?_
      refine WL.pass ((wanted_of rfl rfl (bool_tr rfl hc17)).trans rfl) rfl ?_
      refine WL.pickF (v := .bool false) (bool_tr rfl hc17) rfl ?_
      refine WL.move (v := .bool false) rfl ?_
      refine WL.pass ((wanted_of rfl rfl rfl).trans rfl) rfl ?_
      refine WL.pass ((wanted_of rfl rfl rfl).trans rfl) rfl ?_
      refine WL.pass ((wanted_of rfl rfl rfl).trans rfl) rfl ?_
      refine WL.pickF (v := .bool false) rfl rfl ?_
      refine WL.move (v := .bool false) rfl ?_
      refine WL.pass ((wanted_of rfl rfl rfl).trans rfl) rfl ?_
      refine WL.pass ((wanted_of rfl rfl rfl).trans rfl) rfl ?_
      refine WL.pass ((wanted_of rfl rfl rfl).trans rfl) rfl ?_
      refine WL.pickF (v := .bool false) rfl rfl ?_
      refine WL.move (v := .bool false) rfl ?_
      refine WL.pass ((wanted_of rfl rfl rfl).trans rfl) rfl ?_
      refine WL.pass ((wanted_of rfl rfl rfl).trans rfl) rfl ?_
      refine WL.pass ((wanted_of rfl rfl rfl).trans rfl) rfl ?_
      refine WL.pickF (v := .bool false) rfl rfl ?_
      refine WL.move (v := .bool false) rfl ?_
      refine WL.pass ((wanted_of rfl rfl rfl).trans rfl) rfl ?_
      refine WL.pass ((wanted_of rfl rfl rfl).trans rfl) rfl ?_
      refine WL.pass ((wanted_of rfl rfl rfl).trans rfl) rfl ?_
      refine WL.pass ((wanted_of rfl rfl rfl).trans rfl) rfl ?_
      refine WL.pickF (v := .bool false) rfl rfl ?_
      refine WL.assign (v := .bool false) rfl ?_
      refine WL.nil ?_
      exact Jk11 false _ _ rfl ((hs.mask []).pick []) hf
  · refine WL.pass ((wanted_of rfl rfl (bool_tr rfl hc14)).trans rfl) rfl ?_
    refine WL.pass ((wanted_of rfl rfl (bool_tr rfl hc14)).trans rfl) rfl ?_
    refine WL.pass ((wanted_of rfl rfl (bool_tr rfl hc14)).trans rfl) rfl ?_
    refine WL.pass ((wanted_of rfl rfl (bool_tr rfl hc14)).trans rfl) rfl ?_
    refine WL.pickF (v := .bool false) (bool_tr rfl hc14) rfl ?_
    refine WL.move (v := .bool false) rfl ?_
    refine WL.pass ((wanted_of rfl rfl rfl).trans rfl) rfl ?_
    refine WL.pass ((wanted_of rfl rfl rfl).trans rfl) rfl ?_
    refine WL.pass ((wanted_of rfl rfl rfl).trans rfl) rfl ?_
    refine WL.pass ((wanted_of rfl rfl rfl).trans rfl) rfl ?_
    refine WL.pickF (v := .bool false) rfl rfl ?_
    refine WL.move (v := .bool false) rfl ?_
    refine WL.pass ((wanted_of rfl rfl rfl).trans rfl) rfl ?_
    refine WL.pass ((wanted_of rfl rfl rfl).trans rfl) rfl ?_
    refine WL.pass ((wanted_of rfl rfl rfl).trans rfl) rfl ?_
    refine WL.pickF (v := .bool false) rfl rfl ?_
    refine WL.move (v := .bool false) rfl ?_
    refine WL.pass ((wanted_of rfl rfl rfl).trans rfl) rfl ?_
    refine WL.pass ((wanted_of rfl rfl rfl).trans rfl) rfl ?_
    refine WL.pass ((wanted_of rfl rfl rfl).trans rfl) rfl ?_
    refine WL.pickF (v := .bool false) rfl rfl ?_
    refine WL.move (v := .bool false) rfl ?_
    refine WL.pass ((wanted_of rfl rfl rfl).trans rfl) rfl ?_
    refine WL.pass ((wanted_of rfl rfl rfl).trans rfl) rfl ?_
    refine WL.pass ((wanted_of rfl rfl rfl).trans rfl) rfl ?_
    refine WL.pickF (v := .bool false) rfl rfl ?_
    refine WL.move (v := .bool false) rfl ?_
    refine WL.pass ((wanted_of rfl rfl rfl).trans rfl) rfl ?_
    refine WL.pass ((wanted_of rfl rfl rfl).trans rfl) rfl ?_
    refine WL.pass ((wanted_of rfl rfl rfl).trans rfl) rfl ?_
    refine WL.pass ((wanted_of rfl rfl rfl).trans rfl) rfl ?_
    refine WL.pickF (v := .bool false) rfl rfl ?_
    refine WL.assign (v := .bool false) rfl ?_
    refine WL.nil ?_
    exact Jk11 false _ _ rfl ((hs.mask []).pick []) hf
/-! elasticstore/elasticstoreref06.Server: function 31 -/
theorem esref06_Server.calls {ok : Nat → Prop} {w0 : World} {x1 : Int}  {r : Bool} (hf : esref06_Server x1 = some r)  :
    Calls Try.prog 31 #[.int .i64 x1] w0 fun e w' => ∃ v, e = .returned v ∧ ∃ y : Unit, v = .bool r ∧ St ok (bz w0) w' [] [] := by
  unfold esref06_Server at hf
  refine calls_of_W (fn := Try.f31) (N := 9) Try.func31 rfl Try.ntmps31 rfl ?_
  have hs : St ok (bz w0) w0 [] [] := St.init All.nil
  refine W.seqK fun K2 hK2 => ?_
  refine W.region ?_
  refine WL.assign (v := .bool false) rfl ?_
  refine WL.nil ?_
  refine hK2 _ _ ?_
  refine W.seqK fun K3 hK3 => ?_
  have Jk6 : ∀ (x5 : Bool) (ρ : Env) (w : World), ρ 2 = .bool x5 → St ok (bz w0) w [] [] → esref06_Server.j1 x5 = some r → K3 ρ w := by
    intro x5 ρ w h4_2 hs hf
    refine hK3 _ _ ?_
    unfold esref06_Server.j1 at hf
    refine W.ret ?_
    have hr := Option.some.inj hf; subst hr
    exact ⟨_, resOk_one rfl h4_2, (), rfl, (hs.mask []).pick []⟩
  refine W.region ?_
  refine WL.move (v := .int .i64 x1) rfl ?_
  refine WL.bin (v := .bool (decide (1 ≤ x1))) rfl rfl (ib_geq _ _ _) ?_
  refine WL.move (v := .bool (decide (1 ≤ x1))) rfl ?_
  rcases iteE hf with ⟨hc7, hf⟩ | ⟨hc7, hf⟩
  · refine WL.move (v := .int .i64 x1) rfl ?_ (hg := (wanted_of rfl rfl (bool_tr rfl hc7)).trans rfl)
    refine WL.bin (v := .bool (decide (x1 ≤ 12))) rfl rfl (ib_leq _ _ _) ?_ (hg := (wanted_of rfl rfl (bool_tr rfl hc7)).trans rfl)
    refine WL.pickT (v := .bool (decide (x1 ≤ 12))) (bool_tr rfl hc7) rfl ?_
    refine WL.assign (v := .bool (decide (x1 ≤ 12))) rfl ?_
    refine WL.nil ?_
    exact Jk6 (decide (x1 ≤ 12)) _ _ rfl ((hs.mask []).pick []) hf
  · refine WL.pass ((wanted_of rfl rfl (bool_tr rfl hc7)).trans rfl) rfl ?_
    refine WL.pass ((wanted_of rfl rfl (bool_tr rfl hc7)).trans rfl) rfl ?_
    refine WL.pickF (v := .bool false) (bool_tr rfl hc7) rfl ?_
    refine WL.assign (v := .bool false) rfl ?_
    refine WL.nil ?_
    exact Jk6 false _ _ rfl ((hs.mask []).pick []) hf
/-! elasticstore/elasticstoreref06.ValidateRule: function 13 -/
theorem esref06_ValidateRule.calls {ok : Nat → Prop} {w0 : World} {x1 : api_Rule} {v2 : Value} {r : Int} (hf : esref06_ValidateRule x1 = some r) (i0 : (vl t_api_Rule x1 v2).holds ok w0) :
    Calls Try.prog 13 #[v2] w0 fun e w' => ∃ v, e = .returned v ∧ ∃ y : Unit, v = .int .i64 r ∧ St ok (bz w0) w' [] [] := by
  unfold esref06_ValidateRule at hf
  refine calls_of_W (fn := Try.f13) (N := 56) Try.func13 rfl Try.ntmps13 rfl ?_
  have hs : St ok (bz w0) w0 [vl t_api_Rule x1 v2] [] := St.init (All.cons i0 All.nil)
  clear i0
  obtain ⟨cs3, hl4, rfl⟩ := hs.aggv (n := 3) 0 rfl rfl rfl
  refine W.seqK fun K5 hK5 => ?_
  refine W.region ?_
  refine WL.box (vs := cs3) hs rfl rfl (fun g6 w hs => ?_)
  refine WL.assign (v := .int .i64 0) rfl ?_
  refine WL.nil ?_
  refine hK5 _ _ ?_
  refine W.seqK fun K7 hK7 => ?_
  refine W.block ?_
  refine W.seqK fun K8 hK8 => ?_
  have Jk11 : ∀ (x10 : Bool) (ρ : Env) (w : World), ρ 1 = .pointer (some ⟨g6, 0, none⟩) → ρ 3 = .bool x10 → St ok (bz w0) w [vl t_api_Rule x1 (.agg cs3.toArray)] [blk g6 23 cs3] → esref06_ValidateRule.j3 x1 x10 = some r → K8 ρ w := by
    intro x10 ρ w h9_1 h9_3 hs hf
    refine hK8 _ _ ?_
    unfold esref06_ValidateRule.j3 at hf
    rcases iteE hf with ⟨hc12, hf⟩ | ⟨hc12, hf⟩
    · refine W.cond_true (bool_tr h9_3 hc12) ?_
      refine W.seqK fun K13 hK13 => ?_
      refine W.region ?_
      refine WL.assign (v := .int .i64 10) rfl ?_
      refine WL.nil ?_
      refine hK13 _ _ ?_
      refine W.ret ?_
      have hr := Option.some.inj hf; subst hr
      exact ⟨_, resOk_one rfl rfl, (), rfl, (hs.mask []).pick []⟩
    · refine W.cond_false (bool_tr h9_3 hc12) ?_
      refine W.seqK fun K14 hK14 => ?_
      have Jk17 : ∀ (x16 : Bool) (ρ : Env) (w : World), ρ 1 = .pointer (some ⟨g6, 0, none⟩) → ρ 12 = .bool x16 → St ok (bz w0) w [vl t_api_Rule x1 (.agg cs3.toArray)] [blk g6 23 cs3] → esref06_ValidateRule.j2 x1 x16 = some r → K14 ρ w := by
        intro x16 ρ w h15_1 h15_12 hs hf
        refine hK14 _ _ ?_
        unfold esref06_ValidateRule.j2 at hf
        rcases iteE hf with ⟨hc18, hf⟩ | ⟨hc18, hf⟩
        · refine W.cond_true (bool_tr h15_12 hc18) ?_
          refine W.seqK fun K19 hK19 => ?_
          refine W.region ?_
          refine WL.assign (v := .int .i64 9) rfl ?_
          refine WL.nil ?_
          refine hK19 _ _ ?_
          refine W.ret ?_
          have hr := Option.some.inj hf; subst hr
          exact ⟨_, resOk_one rfl rfl, (), rfl, (hs.mask []).pick []⟩
        · refine W.cond_false (bool_tr h15_12 hc18) ?_
          refine W.seqK fun K20 hK20 => ?_
          have Jk23 : ∀ (x22 : Bool) (ρ : Env) (w : World), ρ 32 = .bool x22 → St ok (bz w0) w [] [] → esref06_ValidateRule.j1 x22 = some r → K20 ρ w := by
            intro x22 ρ w h21_32 hs hf
            refine hK20 _ _ ?_
            unfold esref06_ValidateRule.j1 at hf
            rcases iteE hf with ⟨hc24, hf⟩ | ⟨hc24, hf⟩
            · refine W.cond_true (bool_tr h21_32 hc24) ?_
              refine W.seqK fun K25 hK25 => ?_
              refine W.region ?_
              refine WL.assign (v := .int .i64 9) rfl ?_
              refine WL.nil ?_
              refine hK25 _ _ ?_
              refine W.ret ?_
              have hr := Option.some.inj hf; subst hr
              exact ⟨_, resOk_one rfl rfl, (), rfl, (hs.mask []).pick []⟩
            · refine W.cond_false (bool_tr h21_32 hc24) ?_
              refine W.skip ?_
              refine hK7 _ _ ?_
              refine W.seqK fun K26 hK26 => ?_
              refine W.region ?_
              refine WL.assign (v := .int .i64 0) rfl ?_
              refine WL.nil ?_
              refine hK26 _ _ ?_
              refine W.ret ?_
              have hr := Option.some.inj hf; subst hr
              exact ⟨_, resOk_one rfl rfl, (), rfl, (hs.mask []).pick []⟩
          refine W.region ?_
          refine WL.fieldAddr (m := 0) h15_1 FA23_0 rfl ?_
          refine WL.loadF (z := x1.Kind) F_api_Rule_Kind hs 0 rfl 0 rfl rfl TI3 (.inr rfl) rfl rfl (fun v27 hs => ?_)
          obtain rfl := hs.int 0 rfl
          refine WL.bin (v := .bool (x1.Kind == 4)) rfl rfl (ib_eql _ _ _) ?_
          refine WL.move (v := .bool (x1.Kind == 4)) rfl ?_
          rcases iteE hf with ⟨hc28, hf⟩ | ⟨hc28, hf⟩
          · refine WL.fieldAddr (m := 2) h15_1 FA23_2 rfl ?_ (hg := (wanted_of rfl rfl (bool_tr rfl hc28)).trans rfl)
            refine WL.loadF (z := x1.Faulty) F_api_Rule_Faulty hs 0 rfl 1 rfl rfl TI3 (.inr rfl) rfl rfl (fun v29 hs => ?_) (hg := (wanted_of rfl rfl (bool_tr rfl hc28)).trans rfl)
            obtain rfl := hs.int 0 rfl
            refine WL.bin (v := .bool (decide (x1.Faulty < 0))) rfl rfl (ib_lss _ _ _) ?_ (hg := (wanted_of rfl rfl (bool_tr rfl hc28)).trans rfl)
            refine WL.move (v := .bool (decide (x1.Faulty < 0))) rfl ?_ (hg := (wanted_of rfl rfl (bool_tr rfl hc28)).trans rfl)
            rcases iteE hf with ⟨hc30, hf⟩ | ⟨hc30, hf⟩
            · refine WL.pass ((wanted_of rfl rfl (bool_tr rfl hc30)).trans rfl) rfl ?_
              refine WL.pass ((wanted_of rfl rfl (bool_tr rfl hc30)).trans rfl) rfl ?_
              refine WL.pass ((wanted_of rfl rfl (bool_tr rfl hc30)).trans rfl) rfl ?_
              refine WL.pickT (v := .bool true) (bool_tr rfl hc30) rfl ?_ (hg := (wanted_of rfl rfl (bool_tr rfl hc28)).trans rfl)
              refine WL.pickT (v := .bool true) (bool_tr rfl hc28) rfl ?_
              refine WL.move (v := .bool true) rfl ?_
              refine WL.pass ((wanted_of rfl rfl rfl).trans rfl) rfl ?_
              refine WL.pass ((wanted_of rfl rfl rfl).trans rfl) rfl ?_
              refine WL.pass ((wanted_of rfl rfl rfl).trans rfl) rfl ?_
              refine WL.pass ((wanted_of rfl rfl rfl).trans rfl) rfl ?_
              refine WL.pass (wanted_undef rfl rfl rfl) rfl ?_
              refine WL.pass (wanted_undef rfl rfl rfl) rfl ?_
              refine WL.pass (wanted_undef rfl rfl rfl) rfl ?_
              refine WL.pass ((wanted_of rfl rfl rfl).trans rfl) rfl ?_
              refine WL.pickT (v := .bool true) rfl rfl ?_
              refine WL.assign (v := .bool true) rfl ?_
              refine WL.nil ?_
              exact Jk23 true _ _ rfl ((hs.mask []).pick []) hf
            · refine WL.fieldAddr (m := 2) h15_1 FA23_2 rfl ?_ (hg := (wanted_of rfl rfl (bool_tr rfl hc30)).trans rfl)
              refine WL.loadF (z := x1.Faulty) F_api_Rule_Faulty hs 0 rfl 2 rfl rfl TI3 (.inr rfl) rfl rfl (fun v31 hs => ?_) (hg := (wanted_of rfl rfl (bool_tr rfl hc30)).trans rfl)
              obtain rfl := hs.int 0 rfl
              refine WL.bin (v := .bool (decide (12 < x1.Faulty))) rfl rfl (ib_gtr _ _ _) ?_ (hg := (wanted_of rfl rfl (bool_tr rfl hc30)).trans rfl)
              refine WL.pickF (v := .bool (decide (12 < x1.Faulty))) (bool_tr rfl hc30) rfl ?_ (hg := (wanted_of rfl rfl (bool_tr rfl hc28)).trans rfl)
              refine WL.pickT (v := .bool (decide (12 < x1.Faulty))) (bool_tr rfl hc28) rfl ?_
              refine WL.move (v := .bool (decide (12 < x1.Faulty))) rfl ?_
              rcases iteE hf with ⟨hc32, hf⟩ | ⟨hc32, hf⟩
              · refine WL.pass ((wanted_of rfl rfl (bool_tr rfl hc32)).trans rfl) rfl ?_
                refine WL.pass ((wanted_of rfl rfl (bool_tr rfl hc32)).trans rfl) rfl ?_
                refine WL.pass ((wanted_of rfl rfl (bool_tr rfl hc32)).trans rfl) rfl ?_
                refine WL.pass ((wanted_of rfl rfl (bool_tr rfl hc32)).trans rfl) rfl ?_
                refine WL.pass (wanted_undef rfl rfl rfl) rfl ?_
                refine WL.pass (wanted_undef rfl rfl rfl) rfl ?_
                refine WL.pass (wanted_undef rfl rfl rfl) rfl ?_
                refine WL.pass ((wanted_of rfl rfl (bool_tr rfl hc32)).trans rfl) rfl ?_
                refine WL.pickT (v := .bool true) (bool_tr rfl hc32) rfl ?_
                refine WL.assign (v := .bool true) rfl ?_
                refine WL.nil ?_
                exact Jk23 true _ _ rfl ((hs.mask []).pick []) hf
              · refine WL.fieldAddr (m := 0) h15_1 FA23_0 rfl ?_ (hg := (wanted_of rfl rfl (bool_tr rfl hc32)).trans rfl)
                refine WL.loadF (z := x1.Kind) F_api_Rule_Kind hs 0 rfl 3 rfl rfl TI3 (.inr rfl) rfl rfl (fun v33 hs => ?_) (hg := (wanted_of rfl rfl (bool_tr rfl hc32)).trans rfl)
                obtain rfl := hs.int 0 rfl
                refine WL.bin (v := .bool (x1.Kind != 4)) rfl rfl (ib_neq _ _ _) ?_ (hg := (wanted_of rfl rfl (bool_tr rfl hc32)).trans rfl)
                refine WL.move (v := .bool (x1.Kind != 4)) rfl ?_ (hg := (wanted_of rfl rfl (bool_tr rfl hc32)).trans rfl)
                rcases iteE hf with ⟨hc34, hf⟩ | ⟨hc34, hf⟩
                · refine WL.fieldAddr (m := 2) h15_1 FA23_2 rfl ?_ (hg := (wanted_of rfl rfl (bool_tr rfl hc34)).trans rfl)
                  refine WL.loadF (z := x1.Faulty) F_api_Rule_Faulty hs 0 rfl 4 rfl rfl TI3 (.inr rfl) rfl rfl (fun v35 hs => ?_) (hg := (wanted_of rfl rfl (bool_tr rfl hc34)).trans rfl)
                  obtain rfl := hs.int 0 rfl
                  refine WL.bin (v := .bool (x1.Faulty != 0)) rfl rfl (ib_neq _ _ _) ?_ (hg := (wanted_of rfl rfl (bool_tr rfl hc34)).trans rfl)
                  refine WL.pickT (v := .bool (x1.Faulty != 0)) (bool_tr rfl hc34) rfl ?_ (hg := (wanted_of rfl rfl (bool_tr rfl hc32)).trans rfl)
                  refine WL.pickF (v := .bool (x1.Faulty != 0)) (bool_tr rfl hc32) rfl ?_
                  refine WL.assign (v := .bool (x1.Faulty != 0)) rfl ?_
                  refine WL.nil ?_
                  exact Jk23 (x1.Faulty != 0) _ _ rfl ((hs.mask []).pick []) hf
                · refine WL.pass ((wanted_of rfl rfl (bool_tr rfl hc34)).trans rfl) rfl ?_
                  refine WL.pass ((wanted_of rfl rfl (bool_tr rfl hc34)).trans rfl) rfl ?_
                  refine WL.pass ((wanted_of rfl rfl (bool_tr rfl hc34)).trans rfl) rfl ?_
                  refine WL.pickF (v := .bool false) (bool_tr rfl hc34) rfl ?_ (hg := (wanted_of rfl rfl (bool_tr rfl hc32)).trans rfl)
                  refine WL.pickF (v := .bool false) (bool_tr rfl hc32) rfl ?_
                  refine WL.assign (v := .bool false) rfl ?_
                  refine WL.nil ?_
                  exact Jk23 false _ _ rfl ((hs.mask []).pick []) hf
          · refine WL.pass ((wanted_of rfl rfl (bool_tr rfl hc28)).trans rfl) rfl ?_
            refine WL.pass ((wanted_of rfl rfl (bool_tr rfl hc28)).trans rfl) rfl ?_
            refine WL.pass ((wanted_of rfl rfl (bool_tr rfl hc28)).trans rfl) rfl ?_
            refine WL.pass ((wanted_of rfl rfl (bool_tr rfl hc28)).trans rfl) rfl ?_
            refine WL.pass (wanted_undef rfl rfl rfl) rfl ?_
            refine WL.pass (wanted_undef rfl rfl rfl) rfl ?_
            refine WL.pass (wanted_undef rfl rfl rfl) rfl ?_
            refine WL.pass ((wanted_of rfl rfl (bool_tr rfl hc28)).trans rfl) rfl ?_
            refine WL.pickF (v := .bool false) (bool_tr rfl hc28) rfl ?_
            refine WL.move (v := .bool false) rfl ?_
            refine WL.fieldAddr (m := 0) h15_1 FA23_0 rfl ?_ (hg := (wanted_of rfl rfl rfl).trans rfl)
            refine WL.loadF (z := x1.Kind) F_api_Rule_Kind hs 0 rfl 1 rfl rfl TI3 (.inr rfl) rfl rfl (fun v36 hs => ?_) (hg := (wanted_of rfl rfl rfl).trans rfl)
            obtain rfl := hs.int 0 rfl
            refine WL.bin (v := .bool (x1.Kind != 4)) rfl rfl (ib_neq _ _ _) ?_ (hg := (wanted_of rfl rfl rfl).trans rfl)
            refine WL.move (v := .bool (x1.Kind != 4)) rfl ?_ (hg := (wanted_of rfl rfl rfl).trans rfl)
            rcases iteE hf with ⟨hc37, hf⟩ | ⟨hc37, hf⟩
            · refine WL.fieldAddr (m := 2) h15_1 FA23_2 rfl ?_ (hg := (wanted_of rfl rfl (bool_tr rfl hc37)).trans rfl)
              refine WL.loadF (z := x1.Faulty) F_api_Rule_Faulty hs 0 rfl 2 rfl rfl TI3 (.inr rfl) rfl rfl (fun v38 hs => ?_) (hg := (wanted_of rfl rfl (bool_tr rfl hc37)).trans rfl)
              obtain rfl := hs.int 0 rfl
              refine WL.bin (v := .bool (x1.Faulty != 0)) rfl rfl (ib_neq _ _ _) ?_ (hg := (wanted_of rfl rfl (bool_tr rfl hc37)).trans rfl)
              refine WL.pickT (v := .bool (x1.Faulty != 0)) (bool_tr rfl hc37) rfl ?_ (hg := (wanted_of rfl rfl rfl).trans rfl)
              refine WL.pickF (v := .bool (x1.Faulty != 0)) rfl rfl ?_
              refine WL.assign (v := .bool (x1.Faulty != 0)) rfl ?_
              refine WL.nil ?_
              exact Jk23 (x1.Faulty != 0) _ _ rfl ((hs.mask []).pick []) hf
            · refine WL.pass ((wanted_of rfl rfl (bool_tr rfl hc37)).trans rfl) rfl ?_
              refine WL.pass ((wanted_of rfl rfl (bool_tr rfl hc37)).trans rfl) rfl ?_
              refine WL.pass ((wanted_of rfl rfl (bool_tr rfl hc37)).trans rfl) rfl ?_
              refine WL.pickF (v := .bool false) (bool_tr rfl hc37) rfl ?_ (hg := (wanted_of rfl rfl rfl).trans rfl)
              refine WL.pickF (v := .bool false) rfl rfl ?_
              refine WL.assign (v := .bool false) rfl ?_
              refine WL.nil ?_
              exact Jk23 false _ _ rfl ((hs.mask []).pick []) hf
      refine W.region ?_
      refine WL.fieldAddr (m := 0) h9_1 FA23_0 rfl ?_
      refine WL.loadF (z := x1.Kind) F_api_Rule_Kind hs 0 rfl 0 rfl rfl TI3 (.inr rfl) rfl rfl (fun v39 hs => ?_)
      obtain rfl := hs.int 0 rfl
      refine WL.bin (v := .bool (x1.Kind == 3)) rfl rfl (ib_eql _ _ _) ?_
      refine WL.move (v := .bool (x1.Kind == 3)) rfl ?_
      rcases iteE hf with ⟨hc40, hf⟩ | ⟨hc40, hf⟩
      · refine WL.fieldAddr (m := 1) h9_1 FA23_1 rfl ?_ (hg := (wanted_of rfl rfl (bool_tr rfl hc40)).trans rfl)
        refine WL.loadF (z := x1.Columns) F_api_Rule_Columns hs 0 rfl 1 rfl rfl TI3 (.inr rfl) rfl rfl (fun v41 hs => ?_) (hg := (wanted_of rfl rfl (bool_tr rfl hc40)).trans rfl)
        obtain rfl := hs.int 0 rfl
        obtain ⟨x42, hxx42, hf⟩ := bindE hf
        refine WL.call (vs := [.int .i64 x1.Columns]) hs FN31 ⟨rfl, trivial⟩ (fun ok hA => esref06_Server.calls (x1 := x1.Columns) hxx42) ?_ (hg := (wanted_of rfl rfl (bool_tr rfl hc40)).trans rfl)
        rintro _ w hs
        refine WL.not rfl ?_ (hg := (wanted_of rfl rfl (bool_tr rfl hc40)).trans rfl)
        refine WL.pickT (v := .bool (!x42)) (bool_tr rfl hc40) rfl ?_
        refine WL.move (v := .bool (!x42)) rfl ?_
        rcases iteE hf with ⟨hc43, hf⟩ | ⟨hc43, hf⟩
        · refine WL.pass ((wanted_of rfl rfl (bool_tr rfl hc43)).trans rfl) rfl ?_
          refine WL.pass ((wanted_of rfl rfl (bool_tr rfl hc43)).trans rfl) rfl ?_
          refine WL.pass ((wanted_of rfl rfl (bool_tr rfl hc43)).trans rfl) rfl ?_
          refine WL.pass ((wanted_of rfl rfl (bool_tr rfl hc43)).trans rfl) rfl ?_
          refine WL.pass (wanted_undef rfl rfl rfl) rfl ?_
          refine WL.pass (wanted_undef rfl rfl rfl) rfl ?_
          refine WL.pass (wanted_undef rfl rfl rfl) rfl ?_
          refine WL.pass ((wanted_of rfl rfl (bool_tr rfl hc43)).trans rfl) rfl ?_
          refine WL.pickT (v := .bool true) (bool_tr rfl hc43) rfl ?_
          refine WL.assign (v := .bool true) rfl ?_
          refine WL.nil ?_
          exact Jk17 true _ _ h9_1 rfl ((hs.mask [true]).pick [2]) hf
        · refine WL.fieldAddr (m := 0) h9_1 FA23_0 rfl ?_ (hg := (wanted_of rfl rfl (bool_tr rfl hc43)).trans rfl)
          refine WL.loadF (z := x1.Kind) F_api_Rule_Kind hs 0 rfl 2 rfl rfl TI3 (.inr rfl) rfl rfl (fun v44 hs => ?_) (hg := (wanted_of rfl rfl (bool_tr rfl hc43)).trans rfl)
          obtain rfl := hs.int 0 rfl
          refine WL.bin (v := .bool (x1.Kind != 3)) rfl rfl (ib_neq _ _ _) ?_ (hg := (wanted_of rfl rfl (bool_tr rfl hc43)).trans rfl)
          refine WL.move (v := .bool (x1.Kind != 3)) rfl ?_ (hg := (wanted_of rfl rfl (bool_tr rfl hc43)).trans rfl)
          rcases iteE hf with ⟨hc45, hf⟩ | ⟨hc45, hf⟩
          · refine WL.fieldAddr (m := 1) h9_1 FA23_1 rfl ?_ (hg := (wanted_of rfl rfl (bool_tr rfl hc45)).trans rfl)
            refine WL.loadF (z := x1.Columns) F_api_Rule_Columns hs 0 rfl 3 rfl rfl TI3 (.inr rfl) rfl rfl (fun v46 hs => ?_) (hg := (wanted_of rfl rfl (bool_tr rfl hc45)).trans rfl)
            obtain rfl := hs.int 0 rfl
            refine WL.bin (v := .bool (x1.Columns != 0)) rfl rfl (ib_neq _ _ _) ?_ (hg := (wanted_of rfl rfl (bool_tr rfl hc45)).trans rfl)
            refine WL.pickT (v := .bool (x1.Columns != 0)) (bool_tr rfl hc45) rfl ?_ (hg := (wanted_of rfl rfl (bool_tr rfl hc43)).trans rfl)
            refine WL.pickF (v := .bool (x1.Columns != 0)) (bool_tr rfl hc43) rfl ?_
            refine WL.assign (v := .bool (x1.Columns != 0)) rfl ?_
            refine WL.nil ?_
            exact Jk17 (x1.Columns != 0) _ _ h9_1 rfl ((hs.mask [true]).pick [4]) hf
          · refine WL.pass ((wanted_of rfl rfl (bool_tr rfl hc45)).trans rfl) rfl ?_
            refine WL.pass ((wanted_of rfl rfl (bool_tr rfl hc45)).trans rfl) rfl ?_
            refine WL.pass ((wanted_of rfl rfl (bool_tr rfl hc45)).trans rfl) rfl ?_
            refine WL.pickF (v := .bool false) (bool_tr rfl hc45) rfl ?_ (hg := (wanted_of rfl rfl (bool_tr rfl hc43)).trans rfl)
            refine WL.pickF (v := .bool false) (bool_tr rfl hc43) rfl ?_
            refine WL.assign (v := .bool false) rfl ?_
            refine WL.nil ?_
            exact Jk17 false _ _ h9_1 rfl ((hs.mask [true]).pick [3]) hf
      · refine WL.pass ((wanted_of rfl rfl (bool_tr rfl hc40)).trans rfl) rfl ?_
        refine WL.pass ((wanted_of rfl rfl (bool_tr rfl hc40)).trans rfl) rfl ?_
        refine WL.pass ((wanted_of rfl rfl (bool_tr rfl hc40)).trans rfl) rfl ?_
        refine WL.pass ((wanted_of rfl rfl (bool_tr rfl hc40)).trans rfl) rfl ?_
        refine WL.pickF (v := .bool false) (bool_tr rfl hc40) rfl ?_
        refine WL.move (v := .bool false) rfl ?_
        refine WL.fieldAddr (m := 0) h9_1 FA23_0 rfl ?_ (hg := (wanted_of rfl rfl rfl).trans rfl)
        refine WL.loadF (z := x1.Kind) F_api_Rule_Kind hs 0 rfl 1 rfl rfl TI3 (.inr rfl) rfl rfl (fun v47 hs => ?_) (hg := (wanted_of rfl rfl rfl).trans rfl)
        obtain rfl := hs.int 0 rfl
        refine WL.bin (v := .bool (x1.Kind != 3)) rfl rfl (ib_neq _ _ _) ?_ (hg := (wanted_of rfl rfl rfl).trans rfl)
        refine WL.move (v := .bool (x1.Kind != 3)) rfl ?_ (hg := (wanted_of rfl rfl rfl).trans rfl)
        rcases iteE hf with ⟨hc48, hf⟩ | ⟨hc48, hf⟩
        · refine WL.fieldAddr (m := 1) h9_1 FA23_1 rfl ?_ (hg := (wanted_of rfl rfl (bool_tr rfl hc48)).trans rfl)
          refine WL.loadF (z := x1.Columns) F_api_Rule_Columns hs 0 rfl 2 rfl rfl TI3 (.inr rfl) rfl rfl (fun v49 hs => ?_) (hg := (wanted_of rfl rfl (bool_tr rfl hc48)).trans rfl)
          obtain rfl := hs.int 0 rfl
          refine WL.bin (v := .bool (x1.Columns != 0)) rfl rfl (ib_neq _ _ _) ?_ (hg := (wanted_of rfl rfl (bool_tr rfl hc48)).trans rfl)
          refine WL.pickT (v := .bool (x1.Columns != 0)) (bool_tr rfl hc48) rfl ?_ (hg := (wanted_of rfl rfl rfl).trans rfl)
          refine WL.pickF (v := .bool (x1.Columns != 0)) rfl rfl ?_
          refine WL.assign (v := .bool (x1.Columns != 0)) rfl ?_
          refine WL.nil ?_
          exact Jk17 (x1.Columns != 0) _ _ h9_1 rfl ((hs.mask [true]).pick [3]) hf
        · refine WL.pass ((wanted_of rfl rfl (bool_tr rfl hc48)).trans rfl) rfl ?_
          refine WL.pass ((wanted_of rfl rfl (bool_tr rfl hc48)).trans rfl) rfl ?_
          refine WL.pass ((wanted_of rfl rfl (bool_tr rfl hc48)).trans rfl) rfl ?_
          refine WL.pickF (v := .bool false) (bool_tr rfl hc48) rfl ?_ (hg := (wanted_of rfl rfl rfl).trans rfl)
          refine WL.pickF (v := .bool false) rfl rfl ?_
          refine WL.assign (v := .bool false) rfl ?_
          refine WL.nil ?_
          exact Jk17 false _ _ h9_1 rfl ((hs.mask [true]).pick [2]) hf
  refine W.region ?_
  refine WL.fieldAddr (m := 0) rfl FA23_0 rfl ?_
  refine WL.loadF (z := x1.Kind) F_api_Rule_Kind hs 0 rfl 0 rfl rfl TI3 (.inr rfl) rfl rfl (fun v50 hs => ?_)
  obtain rfl := hs.int 0 rfl
  refine WL.bin (v := .bool (decide (x1.Kind < 1))) rfl rfl (ib_lss _ _ _) ?_
  refine WL.move (v := .bool (decide (x1.Kind < 1))) rfl ?_
  rcases iteE hf with ⟨hc51, hf⟩ | ⟨hc51, hf⟩
  · refine WL.pass ((wanted_of rfl rfl (bool_tr rfl hc51)).trans rfl) rfl ?_
    refine WL.pass ((wanted_of rfl rfl (bool_tr rfl hc51)).trans rfl) rfl ?_
    refine WL.pass ((wanted_of rfl rfl (bool_tr rfl hc51)).trans rfl) rfl ?_
    refine WL.pickT (v := .bool true) (bool_tr rfl hc51) rfl ?_
    refine WL.assign (v := .bool true) rfl ?_
    refine WL.nil ?_
    exact Jk11 true _ _ rfl rfl ((hs.mask [true]).pick [1]) hf
  · refine WL.fieldAddr (m := 0) rfl FA23_0 rfl ?_ (hg := (wanted_of rfl rfl (bool_tr rfl hc51)).trans rfl)
    refine WL.loadF (z := x1.Kind) F_api_Rule_Kind hs 0 rfl 1 rfl rfl TI3 (.inr rfl) rfl rfl (fun v52 hs => ?_) (hg := (wanted_of rfl rfl (bool_tr rfl hc51)).trans rfl)
    obtain rfl := hs.int 0 rfl
    refine WL.bin (v := .bool (decide (4 < x1.Kind))) rfl rfl (ib_gtr _ _ _) ?_ (hg := (wanted_of rfl rfl (bool_tr rfl hc51)).trans rfl)
    refine WL.pickF (v := .bool (decide (4 < x1.Kind))) (bool_tr rfl hc51) rfl ?_
    refine WL.assign (v := .bool (decide (4 < x1.Kind))) rfl ?_
    refine WL.nil ?_
    exact Jk11 (decide (4 < x1.Kind)) _ _ rfl rfl ((hs.mask [true]).pick [2]) hf
end Go.Proofs.Ytodebgfppmcjlaa
