import Derived.Test.YtodebgfppmcjlaaFh
set_option linter.unusedVariables false
set_option linter.unusedSimpArgs false
namespace Go.Proofs.Ytodebgfppmcjlaa
open Go Go.RowKit Go.Proofs.YtodebgfppmcjlaaL
set_option maxRecDepth 100000
set_option maxHeartbeats 4000000
/-! slices.Index[[]int,int]: function 46 -/
theorem slices_Index_int.calls {ok : Nat → Prop} {w0 : World} {x1 : List Int} {x4 : Int} {a2 : Option Addr} {c3 : Nat} {r : Int} (hf : slices_Index_int x1 x4 = some r) (i0 : (vl (tSlice (tInt .i64)) x1 (.slice a2 x1.length c3)).holds ok w0) :
    Calls Try.prog 46 #[.slice a2 x1.length c3, .int .i64 x4] w0 fun e w' => ∃ v, e = .returned v ∧ ∃ y : Unit, v = .int .i64 r ∧ St ok (bz w0) w' [] [] := by
  unfold slices_Index_int at hf
  refine calls_of_W (fn := Try.f46) (N := 19) Try.func46 rfl Try.ntmps46 rfl ?_
  have hs : St ok (bz w0) w0 [vl (tSlice (tInt .i64)) x1 (.slice a2 x1.length c3)] [] := St.init (All.cons i0 All.nil)
  clear i0
  refine W.seqK fun K5 hK5 => ?_
  refine W.region ?_
  refine WL.assign (v := .int .i64 0) rfl ?_
  refine WL.nil ?_
  refine hK5 _ _ ?_
  refine W.seqK fun K6 hK6 => ?_
  have Jk8 : ∀  (ρ : Env) (w : World), St ok (bz w0) w [] [] → slices_Index_int.j1 = some r → K6 ρ w := by
    intro  ρ w  hs hf
    refine hK6 _ _ ?_
    unfold slices_Index_int.j1 at hf
    refine W.seqK fun K9 hK9 => ?_
    refine W.region ?_
    refine WL.assign (v := .int .i64 (-1)) rfl ?_
    refine WL.nil ?_
    refine hK9 _ _ ?_
    refine W.ret ?_
    have hr := Option.some.inj hf; subst hr
    exact ⟨_, resOk_one rfl rfl, (), rfl, (hs.mask []).pick []⟩
  refine W.seqK fun K10 hK10 => ?_
  refine W.region ?_
  refine WL.move (v := .slice a2 x1.length c3) rfl ?_
  refine WL.len (v := .slice a2 x1.length c3) rfl (len_slice UN33) ?_
  refine WL.move (v := .int .i64 0) rfl ?_
  refine WL.nil ?_
  refine hK10 _ _ ?_
  refine W.block ?_
  obtain ⟨bs13, hbs13, hfs13⟩ := bindE hf
  refine W.loop hbs13 (fun s ρ w => match s with | x12 => ρ 0 = .slice a2 x1.length c3 ∧ ρ 1 = .int .i64 x4 ∧ ρ 7 = .int .i64 (x1.length : Int) ∧ ρ 8 = .int .i64 x12 ∧ St ok (bz w0) w [vl (tSlice (tInt .i64)) x1 (.slice a2 x1.length c3)] []) ⟨rfl, rfl, rfl, rfl, (hs.mask []).pick [0]⟩ ?_
  intro x12 ρ w os13 hI hf hbbs13
  obtain ⟨h11_0, h11_1, h11_7, h11_8, hs⟩ := hI
  unfold slices_Index_int.l1 at hf
  refine W.seqK fun K14 hK14 => ?_
  refine W.region ?_
  refine WL.bin (v := .bool (decide (x12 < (x1.length : Int)))) h11_8 h11_7 (ib_lss _ _ _) ?_
  refine WL.nil ?_
  refine hK14 _ _ ?_
  refine W.seqK fun K15 hK15 => ?_
  rcases iteE hf with ⟨hc16, hf⟩ | ⟨hc16, hf⟩
  · refine W.cond_true (bool_tr rfl hc16) ?_
    refine W.skip ?_
    refine hK15 _ _ ?_
    refine W.seqK fun K17 hK17 => ?_
    refine W.block ?_
    refine W.seqK fun K18 hK18 => ?_
    refine W.region ?_
    refine WL.move (v := .int .i64 x12) h11_8 ?_
    refine WL.assign (v := .int .i64 x12) rfl ?_
    refine WL.nil ?_
    refine hK18 _ _ ?_
    refine W.seqK fun K19 hK19 => ?_
    refine W.region ?_
    refine WL.move (v := .int .i64 x4) h11_1 ?_
    refine WL.move (v := .slice a2 x1.length c3) h11_0 ?_
    refine WL.move (v := .int .i64 x12) rfl ?_
    obtain ⟨x20, hxx20, hf⟩ := bindE hf
    refine WL.indexAddr hs 0 rfl UN33 TI3 rfl rfl hxx20 (fun ad21 hs => ?_)
    refine WL.loadP hs 0 rfl TI3 (.inr rfl) rfl (fun v22 hs => ?_)
    obtain rfl := hs.int 0 rfl
    refine WL.bin (v := .bool (x4 == x20)) rfl rfl (ib_eql _ _ _) ?_
    refine WL.nil ?_
    refine hK19 _ _ ?_
    rcases iteE hf with ⟨hc23, hf⟩ | ⟨hc23, hf⟩
    · refine W.cond_true (bool_tr rfl hc23) ?_
      refine W.seqK fun K24 hK24 => ?_
      refine W.region ?_
      refine WL.move (v := .int .i64 x12) rfl ?_
      refine WL.assign (v := .int .i64 x12) rfl ?_
      refine WL.nil ?_
      refine hK24 _ _ ?_
      refine W.ret ?_
      have hr := Option.some.inj hf; subst hr
      have hr := hbbs13 _ rfl; subst hr
      have hf := hfs13
      have hr := Option.some.inj hf; subst hr
      exact ⟨_, resOk_one rfl rfl, (), rfl, (hs.mask []).pick []⟩
    · refine W.cond_false (bool_tr rfl hc23) ?_
      refine W.skip ?_
      refine hK17 _ _ ?_
      refine W.region ?_
      obtain ⟨x25, ex25, hf⟩ := letE hf
      refine WL.bin (v := .int .i64 x25) h11_8 rfl (ib_as ex25 (ib_add _ _ _)) ?_
      refine WL.move (v := .int .i64 x25) rfl ?_
      refine WL.nil ?_
      exact ⟨_, (Option.some.inj hf).symm, h11_0, h11_1, h11_7, rfl, (hs.mask []).pick [2]⟩
  · refine W.cond_false (bool_tr rfl hc16) ?_
    refine W.exit ?_
    have hr := Option.some.inj hf; subst hr
    have hr := hbbs13 _ rfl; subst hr
    have hf := hfs13
    exact Jk8  _ _  ((hs.mask []).pick []) hf
/-! slices.Contains[[]int,int]: function 32 -/
theorem slices_Contains_int.calls {ok : Nat → Prop} {w0 : World} {x1 : List Int} {x4 : Int} {a2 : Option Addr} {c3 : Nat} {r : Bool} (hf : slices_Contains_int x1 x4 = some r) (i0 : (vl (tSlice (tInt .i64)) x1 (.slice a2 x1.length c3)).holds ok w0) :
    Calls Try.prog 32 #[.slice a2 x1.length c3, .int .i64 x4] w0 fun e w' => ∃ v, e = .returned v ∧ ∃ y : Unit, v = .bool r ∧ St ok (bz w0) w' [] [] := by
  unfold slices_Contains_int at hf
  refine calls_of_W (fn := Try.f32) (N := 9) Try.func32 rfl Try.ntmps32 rfl ?_
  have hs : St ok (bz w0) w0 [vl (tSlice (tInt .i64)) x1 (.slice a2 x1.length c3)] [] := St.init (All.cons i0 All.nil)
  clear i0
  refine W.seqK fun K5 hK5 => ?_
  refine W.region ?_
  refine WL.assign (v := .bool false) rfl ?_
  refine WL.nil ?_
  refine hK5 _ _ ?_
  refine W.seqK fun K6 hK6 => ?_
  refine W.region ?_
  refine WL.move (v := .slice a2 x1.length c3) rfl ?_
  refine WL.move (v := .int .i64 x4) rfl ?_
  obtain ⟨x7, hxx7, hf⟩ := bindE hf
  refine WL.call (vs := [.slice a2 x1.length c3, .int .i64 x4]) hs FN46 ⟨rfl, ⟨rfl, trivial⟩⟩ (fun ok hA => slices_Index_int.calls (x1 := x1) (x4 := x4) hxx7 (hA.get 0 rfl)) ?_
  rintro _ w hs
  refine WL.bin (v := .bool (decide (0 ≤ x7))) rfl rfl (ib_geq _ _ _) ?_
  refine WL.assign (v := .bool (decide (0 ≤ x7))) rfl ?_
  refine WL.nil ?_
  refine hK6 _ _ ?_
  refine W.ret ?_
  have hr := Option.some.inj hf; subst hr
  exact ⟨_, resOk_one rfl rfl, (), rfl, (hs.mask []).pick []⟩
/-! elasticstore/quorum.count: function 47 -/
theorem quorum_count.calls {ok : Nat → Prop} {w0 : World} {x1 : List Bool} {a2 : Option Addr} {c3 : Nat} {r : Int} (hf : quorum_count x1 = some r) (i0 : (vl (tSlice tBool) x1 (.slice a2 x1.length c3)).holds ok w0) :
    Calls Try.prog 47 #[.slice a2 x1.length c3] w0 fun e w' => ∃ v, e = .returned v ∧ ∃ y : Unit, v = .int .i64 r ∧ St ok (bz w0) w' [] [] := by
  unfold quorum_count at hf
  refine calls_of_W (fn := Try.f47) (N := 17) Try.func47 rfl Try.ntmps47 rfl ?_
  have hs : St ok (bz w0) w0 [vl (tSlice tBool) x1 (.slice a2 x1.length c3)] [] := St.init (All.cons i0 All.nil)
  clear i0
  refine W.seqK fun K4 hK4 => ?_
  refine W.region ?_
  refine WL.assign (v := .int .i64 0) rfl ?_
  refine WL.nil ?_
  refine hK4 _ _ ?_
  refine W.seqK fun K5 hK5 => ?_
  refine W.region ?_
  refine WL.assign (v := .int .i64 0) rfl ?_
  refine WL.nil ?_
  refine hK5 _ _ ?_
  refine W.seqK fun K6 hK6 => ?_
  have Jk9 : ∀ (x8 : Int) (ρ : Env) (w : World), ρ 3 = .int .i64 x8 → St ok (bz w0) w [] [] → quorum_count.j1 x8 = some r → K6 ρ w := by
    intro x8 ρ w h7_3 hs hf
    refine hK6 _ _ ?_
    unfold quorum_count.j1 at hf
    refine W.seqK fun K10 hK10 => ?_
    refine W.region ?_
    refine WL.move (v := .int .i64 x8) h7_3 ?_
    refine WL.assign (v := .int .i64 x8) rfl ?_
    refine WL.nil ?_
    refine hK10 _ _ ?_
    refine W.ret ?_
    have hr := Option.some.inj hf; subst hr
    exact ⟨_, resOk_one rfl rfl, (), rfl, (hs.mask []).pick []⟩
  refine W.seqK fun K11 hK11 => ?_
  refine W.region ?_
  refine WL.move (v := .slice a2 x1.length c3) rfl ?_
  refine WL.len (v := .slice a2 x1.length c3) rfl (len_slice UN52) ?_
  refine WL.move (v := .int .i64 0) rfl ?_
  refine WL.nil ?_
  refine hK11 _ _ ?_
  refine W.block ?_
  obtain ⟨bs15, hbs15, hfs15⟩ := bindE hf
  refine W.loop hbs15 (fun s ρ w => match s with | (x13, x14) => ρ 3 = .int .i64 x13 ∧ ρ 6 = .slice a2 x1.length c3 ∧ ρ 7 = .int .i64 (x1.length : Int) ∧ ρ 8 = .int .i64 x14 ∧ St ok (bz w0) w [vl (tSlice tBool) x1 (.slice a2 x1.length c3)] []) ⟨rfl, rfl, rfl, rfl, (hs.mask []).pick [0]⟩ ?_
  intro s ρ w os15 hI hf hbbs15
  obtain ⟨x13, x14⟩ := s
  obtain ⟨h12_3, h12_6, h12_7, h12_8, hs⟩ := hI
  unfold quorum_count.l1 at hf
  refine W.seqK fun K16 hK16 => ?_
  refine W.region ?_
  refine WL.bin (v := .bool (decide (x14 < (x1.length : Int)))) h12_8 h12_7 (ib_lss _ _ _) ?_
  refine WL.nil ?_
  refine hK16 _ _ ?_
  refine W.seqK fun K17 hK17 => ?_
  rcases iteE hf with ⟨hc18, hf⟩ | ⟨hc18, hf⟩
  · refine W.cond_true (bool_tr rfl hc18) ?_
    refine W.skip ?_
    refine hK17 _ _ ?_
    refine W.seqK fun K19 hK19 => ?_
    have Jk22 : ∀ (x21 : Int) (ρ : Env) (w : World), ρ 3 = .int .i64 x21 → ρ 6 = .slice a2 x1.length c3 → ρ 7 = .int .i64 (x1.length : Int) → ρ 8 = .int .i64 x14 → St ok (bz w0) w [vl (tSlice tBool) x1 (.slice a2 x1.length c3)] [] → quorum_count.j2 x14 x21 = some os15 → K19 ρ w := by
      intro x21 ρ w h20_3 h20_6 h20_7 h20_8 hs hf
      refine hK19 _ _ ?_
      unfold quorum_count.j2 at hf
      refine W.region ?_
      obtain ⟨x23, ex23, hf⟩ := letE hf
      refine WL.bin (v := .int .i64 x23) h20_8 rfl (ib_as ex23 (ib_add _ _ _)) ?_
      refine WL.move (v := .int .i64 x23) rfl ?_
      refine WL.nil ?_
      exact ⟨_, (Option.some.inj hf).symm, h20_3, h20_6, h20_7, rfl, (hs.mask []).pick [0]⟩
    refine W.block ?_
    refine W.seqK fun K24 hK24 => ?_
    refine W.region ?_
    obtain ⟨x25, hxx25, hf⟩ := bindE hf
    refine WL.indexAddr hs 0 rfl UN52 TI4 h12_6 h12_8 hxx25 (fun ad26 hs => ?_)
    refine WL.loadP hs 0 rfl TI4 (.inr rfl) rfl (fun v27 hs => ?_)
    obtain rfl := hs.bool 0 rfl
    refine WL.assign (v := .bool x25) rfl ?_
    refine WL.nil ?_
    refine hK24 _ _ ?_
    refine W.seqK fun K28 hK28 => ?_
    refine W.region ?_
    refine WL.move (v := .bool x25) rfl ?_
    refine WL.nil ?_
    refine hK28 _ _ ?_
    rcases iteE hf with ⟨hc29, hf⟩ | ⟨hc29, hf⟩
    · refine W.cond_true (bool_tr rfl hc29) ?_
      refine W.region ?_
      refine WL.move (v := .int .i64 x13) h12_3 ?_
      obtain ⟨x30, ex30, hf⟩ := letE hf
      refine WL.bin (v := .int .i64 x30) rfl rfl (ib_as ex30 (ib_add _ _ _)) ?_
      refine WL.assign (v := .int .i64 x30) rfl ?_
      refine WL.nil ?_
      exact Jk22 x30 _ _ rfl h12_6 h12_7 h12_8 ((hs.mask []).pick [2]) hf
    · refine W.cond_false (bool_tr rfl hc29) ?_
      refine W.skip ?_
      exact Jk22 x13 _ _ h12_3 h12_6 h12_7 h12_8 ((hs.mask []).pick [2]) hf
  · refine W.cond_false (bool_tr rfl hc18) ?_
    refine W.exit ?_
    have hr := Option.some.inj hf; subst hr
    have hr := hbbs15 _ rfl; subst hr
    have hf := hfs15
    exact Jk9 x13 _ _ h12_3 ((hs.mask []).pick []) hf
/-! elasticstore/quorum.weighted: function 48 -/
theorem quorum_weighted.calls {ok : Nat → Prop} {w0 : World} {x1 : List api_Member} {x4 : List Bool} {a2 : Option Addr} {c3 : Nat} {a5 : Option Addr} {c6 : Nat} {r : Bool} (hf : quorum_weighted x1 x4 = some r) (i0 : (vl (tSlice t_api_Member) x1 (.slice a2 x1.length c3)).holds ok w0) (i1 : (vl (tSlice tBool) x4 (.slice a5 x4.length c6)).holds ok w0) :
    Calls Try.prog 48 #[.slice a2 x1.length c3, .slice a5 x4.length c6] w0 fun e w' => ∃ v, e = .returned v ∧ ∃ y : Unit, v = .bool r ∧ St ok (bz w0) w' [] [] := by
  unfold quorum_weighted at hf
  refine calls_of_W (fn := Try.f48) (N := 33) Try.func48 rfl Try.ntmps48 rfl ?_
  have hs : St ok (bz w0) w0 [vl (tSlice t_api_Member) x1 (.slice a2 x1.length c3), vl (tSlice tBool) x4 (.slice a5 x4.length c6)] [] := St.init (All.cons i0 (All.cons i1 All.nil))
  clear i0 i1
  refine W.seqK fun K7 hK7 => ?_
  refine W.region ?_
  refine WL.assign (v := .bool false) rfl ?_
  refine WL.nil ?_
  refine hK7 _ _ ?_
  refine W.seqK fun K8 hK8 => ?_
  refine W.region ?_
  refine WL.assign (v := .int .i64 0) rfl ?_
  refine WL.assign (v := .int .i64 0) rfl ?_
  refine WL.nil ?_
  refine hK8 _ _ ?_
  refine W.seqK fun K9 hK9 => ?_
  have Jk13 : ∀ (x11 : Int) (x12 : Int) (ρ : Env) (w : World), ρ 5 = .int .i64 x11 → ρ 6 = .int .i64 x12 → St ok (bz w0) w [] [] → quorum_weighted.j1 x11 x12 = some r → K9 ρ w := by
    intro x11 x12 ρ w h10_5 h10_6 hs hf
    refine hK9 _ _ ?_
    unfold quorum_weighted.j1 at hf
    refine W.seqK fun K14 hK14 => ?_
    refine W.region ?_
    refine WL.move (v := .int .i64 x11) h10_5 ?_
    refine WL.move (v := .int .i64 x12) h10_6 ?_
    refine WL.bin (v := .bool (decide (x12 < x11))) rfl rfl (ib_gtr _ _ _) ?_
    refine WL.assign (v := .bool (decide (x12 < x11))) rfl ?_
    refine WL.nil ?_
    refine hK14 _ _ ?_
    refine W.ret ?_
    have hr := Option.some.inj hf; subst hr
    exact ⟨_, resOk_one rfl rfl, (), rfl, (hs.mask []).pick []⟩
  refine W.seqK fun K15 hK15 => ?_
  refine W.region ?_
  refine WL.move (v := .slice a2 x1.length c3) rfl ?_
  refine WL.len (v := .slice a2 x1.length c3) rfl (len_slice UN24) ?_
  refine WL.move (v := .int .i64 0) rfl ?_
  refine WL.nil ?_
  refine hK15 _ _ ?_
  refine W.block ?_
  obtain ⟨bs20, hbs20, hfs20⟩ := bindE hf
  refine W.loop hbs20 (fun s ρ w => match s with | (x17, x18, x19) => ρ 1 = .slice a5 x4.length c6 ∧ ρ 5 = .int .i64 x17 ∧ ρ 6 = .int .i64 x18 ∧ ρ 9 = .slice a2 x1.length c3 ∧ ρ 10 = .int .i64 (x1.length : Int) ∧ ρ 11 = .int .i64 x19 ∧ St ok (bz w0) w [vl (tSlice tBool) x4 (.slice a5 x4.length c6), vl (tSlice t_api_Member) x1 (.slice a2 x1.length c3)] []) ⟨rfl, rfl, rfl, rfl, rfl, rfl, (hs.mask []).pick [1, 0]⟩ ?_
  intro s ρ w os20 hI hf hbbs20
  obtain ⟨x17, x18, x19⟩ := s
  obtain ⟨h16_1, h16_5, h16_6, h16_9, h16_10, h16_11, hs⟩ := hI
  unfold quorum_weighted.l1 at hf
  refine W.seqK fun K21 hK21 => ?_
  refine W.region ?_
  refine WL.bin (v := .bool (decide (x19 < (x1.length : Int)))) h16_11 h16_10 (ib_lss _ _ _) ?_
  refine WL.nil ?_
  refine hK21 _ _ ?_
  refine W.seqK fun K22 hK22 => ?_
  rcases iteE hf with ⟨hc23, hf⟩ | ⟨hc23, hf⟩
  · refine W.cond_true (bool_tr rfl hc23) ?_
    refine W.skip ?_
    refine hK22 _ _ ?_
    refine W.seqK fun K24 hK24 => ?_
    have Jk28 : ∀ (x26 : Int) (x27 : Int) (ρ : Env) (w : World), ρ 1 = .slice a5 x4.length c6 → ρ 5 = .int .i64 x26 → ρ 6 = .int .i64 x27 → ρ 9 = .slice a2 x1.length c3 → ρ 10 = .int .i64 (x1.length : Int) → ρ 11 = .int .i64 x19 → St ok (bz w0) w [vl (tSlice tBool) x4 (.slice a5 x4.length c6), vl (tSlice t_api_Member) x1 (.slice a2 x1.length c3)] [] → quorum_weighted.j2 x19 x26 x27 = some os20 → K24 ρ w := by
      intro x26 x27 ρ w h25_1 h25_5 h25_6 h25_9 h25_10 h25_11 hs hf
      refine hK24 _ _ ?_
      unfold quorum_weighted.j2 at hf
      refine W.region ?_
      obtain ⟨x29, ex29, hf⟩ := letE hf
      refine WL.bin (v := .int .i64 x29) h25_11 rfl (ib_as ex29 (ib_add _ _ _)) ?_
      refine WL.move (v := .int .i64 x29) rfl ?_
      refine WL.nil ?_
      exact ⟨_, (Option.some.inj hf).symm, h25_1, h25_5, h25_6, h25_9, h25_10, rfl, (hs.mask []).pick [0, 1]⟩
    refine W.block ?_
    refine W.seqK fun K30 hK30 => ?_
    refine W.region ?_
    refine WL.move (v := .int .i64 x19) h16_11 ?_
    obtain ⟨x31, hxx31, hf⟩ := bindE hf
    refine WL.indexAddr hs 1 rfl UN24 TI44 h16_9 h16_11 hxx31 (fun ad32 hs => ?_)
    refine WL.loadP hs 0 rfl TI44 (.inl rfl) rfl (fun v33 hs => ?_)
    obtain ⟨cs34, hl35, rfl⟩ := hs.aggv (n := 2) 0 rfl rfl rfl
    refine WL.alloc hs ZV44 (fun g36 w hs => ?_)
    refine WL.assign (v := .int .i64 x19) rfl ?_
    refine WL.storeAll (vs := cs34) hs 0 rfl TI44 rfl rfl rfl hl35 (hs.ones 0 rfl rfl) rfl (fun w hs => ?_)
    refine WL.nil ?_
    refine hK30 _ _ ?_
    refine W.seqK fun K37 hK37 => ?_
    refine W.region ?_
    refine WL.move (v := .int .i64 x18) h16_6 ?_
    refine WL.fieldAddr (m := 1) rfl FA44_1 rfl ?_
    refine WL.loadF (z := x31.Weight) F_api_Member_Weight hs 0 rfl 0 rfl rfl TI3 (.inr rfl) rfl rfl (fun v38 hs => ?_)
    obtain rfl := hs.int 0 rfl
    obtain ⟨x39, ex39, hf⟩ := letE hf
    refine WL.bin (v := .int .i64 x39) rfl rfl (ib_as ex39 (ib_add _ _ _)) ?_
    refine WL.assign (v := .int .i64 x39) rfl ?_
    refine WL.nil ?_
    refine hK37 _ _ ?_
    refine W.seqK fun K40 hK40 => ?_
    refine W.region ?_
    refine WL.move (v := .slice a5 x4.length c6) h16_1 ?_
    refine WL.move (v := .int .i64 x19) rfl ?_
    obtain ⟨x41, hxx41, hf⟩ := bindE hf
    refine WL.indexAddr hs 3 rfl UN52 TI4 rfl rfl hxx41 (fun ad42 hs => ?_)
    refine WL.loadP hs 0 rfl TI4 (.inr rfl) rfl (fun v43 hs => ?_)
    obtain rfl := hs.bool 0 rfl
    refine WL.nil ?_
    refine hK40 _ _ ?_
    rcases iteE hf with ⟨hc44, hf⟩ | ⟨hc44, hf⟩
    · refine W.cond_true (bool_tr rfl hc44) ?_
      refine W.region ?_
      refine WL.move (v := .int .i64 x17) h16_5 ?_
      refine WL.fieldAddr (m := 1) rfl FA44_1 rfl ?_
      refine WL.loadF (z := x31.Weight) F_api_Member_Weight hs 0 rfl 3 rfl rfl TI3 (.inr rfl) rfl rfl (fun v45 hs => ?_)
      obtain rfl := hs.int 0 rfl
      obtain ⟨x46, ex46, hf⟩ := letE hf
      refine WL.bin (v := .int .i64 x46) rfl rfl (ib_as ex46 (ib_mul _ _ _)) ?_
      obtain ⟨x47, ex47, hf⟩ := letE hf
      refine WL.bin (v := .int .i64 x47) rfl rfl (ib_as ex47 (ib_add _ _ _)) ?_
      refine WL.assign (v := .int .i64 x47) rfl ?_
      refine WL.nil ?_
      exact Jk28 x47 x39 _ _ h16_1 rfl rfl h16_9 h16_10 h16_11 ((hs.mask []).pick [6, 7]) hf
    · refine W.cond_false (bool_tr rfl hc44) ?_
      refine W.skip ?_
      exact Jk28 x17 x39 _ _ h16_1 h16_5 rfl h16_9 h16_10 h16_11 ((hs.mask []).pick [5, 6]) hf
  · refine W.cond_false (bool_tr rfl hc23) ?_
    refine W.exit ?_
    have hr := Option.some.inj hf; subst hr
    have hr := hbbs20 _ rfl; subst hr
    have hf := hfs20
    exact Jk13 x17 x18 _ _ h16_5 h16_6 ((hs.mask []).pick []) hf
/-! elasticstore/quorum.contains: function 33 -/
theorem quorum_contains.calls {ok : Nat → Prop} {w0 : World} {x1 : api_View} {x5 : List Bool} {v2 : Value} {a6 : Option Addr} {c7 : Nat} {r : Bool} (hf : quorum_contains x1 x5 = some r) (i0 : (vl t_api_View x1 v2).holds ok w0) (i1 : (vl (tSlice tBool) x5 (.slice a6 x5.length c7)).holds ok w0) :
    Calls Try.prog 33 #[v2, .slice a6 x5.length c7] w0 fun e w' => ∃ v, e = .returned v ∧ ∃ y : Unit, v = .bool r ∧ St ok (bz w0) w' [] [] := by
  unfold quorum_contains at hf
  refine calls_of_W (fn := Try.f33) (N := 46) Try.func33 rfl Try.ntmps33 rfl ?_
  have hs : St ok (bz w0) w0 [vl t_api_View x1 v2, vl (tSlice tBool) x5 (.slice a6 x5.length c7)] [] := St.init (All.cons i0 (All.cons i1 All.nil))
  clear i0 i1
  obtain ⟨cs3, hl4, rfl⟩ := hs.aggv (n := 4) 0 rfl rfl rfl
  refine W.seqK fun K8 hK8 => ?_
  refine W.region ?_
  refine WL.box (vs := cs3) hs rfl rfl (fun g9 w hs => ?_)
  refine WL.assign (v := .bool false) rfl ?_
  refine WL.nil ?_
  refine hK8 _ _ ?_
  refine W.seqK fun K10 hK10 => ?_
  refine W.region ?_
  refine WL.fieldAddr (m := 0) rfl FA26_0 rfl ?_
  refine WL.loadF (z := x1.Members) F_api_View_Members hs 0 rfl 0 rfl rfl TI24 (.inr rfl) rfl rfl (fun v11 hs => ?_)
  obtain ⟨a12, c13, rfl⟩ := hs.slice 0 rfl
  refine WL.len (v := .slice a12 (x1.Members).length c13) rfl (len_slice UN24) ?_
  refine WL.assign (v := .int .i64 ((x1.Members).length : Int)) rfl ?_
  refine WL.nil ?_
  refine hK10 _ _ ?_
  refine W.seqK fun K14 hK14 => ?_
  refine W.seqK fun K15 hK15 => ?_
  refine W.region ?_
  refine WL.move (v := .int .i64 ((x1.Members).length : Int)) rfl ?_
  refine WL.bin (v := .bool (((x1.Members).length : Int) == 0)) rfl rfl (ib_eql _ _ _) ?_
  refine WL.nil ?_
  refine hK15 _ _ ?_
  rcases iteE hf with ⟨hc16, hf⟩ | ⟨hc16, hf⟩
  · refine W.cond_true (bool_tr rfl hc16) ?_
    refine W.seqK fun K17 hK17 => ?_
    refine W.region ?_
    refine WL.assign (v := .bool false) rfl ?_
    refine WL.nil ?_
    refine hK17 _ _ ?_
    refine W.ret ?_
    have hr := Option.some.inj hf; subst hr
    exact ⟨_, resOk_one rfl rfl, (), rfl, (hs.mask []).pick []⟩
  · refine W.cond_false (bool_tr rfl hc16) ?_
    refine W.skip ?_
    refine hK14 _ _ ?_
    refine W.seqK fun K18 hK18 => ?_
    refine W.seqK fun K19 hK19 => ?_
    refine W.region ?_
    refine WL.fieldAddr (m := 1) rfl FA26_1 rfl ?_
    refine WL.fieldAddr (m := 1) rfl FA23_0 rfl ?_
    refine WL.loadF (z := x1.Rule.Kind) (F_api_View_Rule.comp F_api_Rule_Kind) hs 0 rfl 1 rfl rfl TI3 (.inr rfl) rfl rfl (fun v20 hs => ?_)
    obtain rfl := hs.int 0 rfl
    refine WL.nil ?_
    refine hK19 _ _ ?_
    refine W.block ?_
    refine W.seqK fun K21 hK21 => ?_
    refine W.region ?_
    refine WL.bin (v := .bool (x1.Rule.Kind == 1)) rfl rfl (ib_eql _ _ _) ?_
    refine WL.assign (v := .bool (x1.Rule.Kind == 1)) rfl ?_
    refine WL.nil ?_
    refine hK21 _ _ ?_
    rcases iteE hf with ⟨hc22, hf⟩ | ⟨hc22, hf⟩
    · refine W.cond_true (bool_tr rfl hc22) ?_
      refine W.seqK fun K23 hK23 => ?_
      refine W.region ?_
      refine WL.move (v := .slice a6 x5.length c7) rfl ?_
      obtain ⟨x24, hxx24, hf⟩ := bindE hf
      refine WL.call (vs := [.slice a6 x5.length c7]) hs FN47 ⟨rfl, trivial⟩ (fun ok hA => quorum_count.calls (x1 := x5) hxx24 (hA.get 3 rfl)) ?_
      rintro _ w hs
      obtain ⟨x25, ex25, hf⟩ := letE hf
      refine WL.bin (v := .int .i64 x25) rfl rfl (ib_as ex25 (ib_mul _ _ _)) ?_
      refine WL.move (v := .int .i64 ((x1.Members).length : Int)) rfl ?_
      refine WL.bin (v := .bool (decide (((x1.Members).length : Int) < x25))) rfl rfl (ib_gtr _ _ _) ?_
      refine WL.assign (v := .bool (decide (((x1.Members).length : Int) < x25))) rfl ?_
      refine WL.nil ?_
      refine hK23 _ _ ?_
      refine W.ret ?_
      have hr := Option.some.inj hf; subst hr
      exact ⟨_, resOk_one rfl rfl, (), rfl, (hs.mask []).pick []⟩
    · refine W.cond_false (bool_tr rfl hc22) ?_
      refine W.seqK fun K26 hK26 => ?_
      refine W.region ?_
      refine WL.bin (v := .bool (x1.Rule.Kind == 2)) rfl rfl (ib_eql _ _ _) ?_
      refine WL.assign (v := .bool (x1.Rule.Kind == 2)) rfl ?_
      refine WL.nil ?_
      refine hK26 _ _ ?_
      rcases iteE hf with ⟨hc27, hf⟩ | ⟨hc27, hf⟩
      · refine W.cond_true (bool_tr rfl hc27) ?_
        refine W.seqK fun K28 hK28 => ?_
        refine W.region ?_
        refine WL.fieldAddr (m := 0) rfl FA26_0 rfl ?_
        refine WL.loadF (z := x1.Members) F_api_View_Members hs 0 rfl 2 rfl rfl TI24 (.inr rfl) rfl rfl (fun v29 hs => ?_)
        obtain ⟨a30, c31, rfl⟩ := hs.slice 0 rfl
        refine WL.move (v := .slice a6 x5.length c7) rfl ?_
        obtain ⟨x32, hxx32, hf⟩ := bindE hf
        refine WL.call (vs := [.slice a30 (x1.Members).length c31, .slice a6 x5.length c7]) hs FN48 ⟨rfl, ⟨rfl, trivial⟩⟩ (fun ok hA => quorum_weighted.calls (x1 := x1.Members) (x4 := x5) hxx32 (hA.get 0 rfl) (hA.get 4 rfl)) ?_
        rintro _ w hs
        refine WL.assign (v := .bool x32) rfl ?_
        refine WL.nil ?_
        refine hK28 _ _ ?_
        refine W.ret ?_
        have hr := Option.some.inj hf; subst hr
        exact ⟨_, resOk_one rfl rfl, (), rfl, (hs.mask []).pick []⟩
      · refine W.cond_false (bool_tr rfl hc27) ?_
        refine W.seqK fun K33 hK33 => ?_
        refine W.region ?_
        refine WL.bin (v := .bool (x1.Rule.Kind == 3)) rfl rfl (ib_eql _ _ _) ?_
        refine WL.assign (v := .bool (x1.Rule.Kind == 3)) rfl ?_
        refine WL.nil ?_
        refine hK33 _ _ ?_
        rcases iteE hf with ⟨hc34, hf⟩ | ⟨hc34, hf⟩
        · refine W.cond_true (bool_tr rfl hc34) ?_
          refine W.seqK fun K35 hK35 => ?_
          refine W.region ?_
          refine WL.fieldAddr (m := 1) rfl FA26_1 rfl ?_
          refine WL.fieldAddr (m := 2) rfl FA23_1 rfl ?_
          refine WL.loadF (z := x1.Rule.Columns) (F_api_View_Rule.comp F_api_Rule_Columns) hs 0 rfl 2 rfl rfl TI3 (.inr rfl) rfl rfl (fun v36 hs => ?_)
          obtain rfl := hs.int 0 rfl
          refine WL.move (v := .slice a6 x5.length c7) rfl ?_
          obtain ⟨x37, hxx37, hf⟩ := bindE hf
          refine WL.call (vs := [.int .i64 x1.Rule.Columns, .slice a6 x5.length c7]) hs FN49 ⟨rfl, ⟨rfl, trivial⟩⟩ (fun ok hA => quorum_grid.calls (x1 := x1.Rule.Columns) (x2 := x5) hxx37 (hA.get 4 rfl)) ?_
          rintro _ w hs
          refine WL.assign (v := .bool x37) rfl ?_
          refine WL.nil ?_
          refine hK35 _ _ ?_
          refine W.ret ?_
          have hr := Option.some.inj hf; subst hr
          exact ⟨_, resOk_one rfl rfl, (), rfl, (hs.mask []).pick []⟩
        · refine W.cond_false (bool_tr rfl hc34) ?_
          refine W.seqK fun K38 hK38 => ?_
          refine W.region ?_
          refine WL.bin (v := .bool (x1.Rule.Kind == 4)) rfl rfl (ib_eql _ _ _) ?_
          refine WL.assign (v := .bool (x1.Rule.Kind == 4)) rfl ?_
          refine WL.nil ?_
          refine hK38 _ _ ?_
          rcases iteE hf with ⟨hc39, hf⟩ | ⟨hc39, hf⟩
          · refine W.cond_true (bool_tr rfl hc39) ?_
            refine W.seqK fun K40 hK40 => ?_
            obtain ⟨x41, hxx41, hf⟩ := bindE hf
            obtain ⟨x43, ex43, hf⟩ := letE hf
            obtain ⟨x44, ex44, hf⟩ := letE hf
            obtain ⟨x45, ex45, hf⟩ := letE hf
            refine W.any (by kernel_rfl) 10 1 [true, true, true, true, true, true, true, true, true, true, false] rfl rfl (poAt [pv (.slice a6 x5.length c7), pv (.int .i64 x41), pv (.int .i64 ((x1.Members).length : Int)), pv (.pointer (some ⟨g9, 1, none⟩)), pv (.pointer (some ⟨g9, 3, none⟩)), pv (.int .i64 x1.Rule.Faulty), pv (.int .i64 x43), pv (.int .i64 x44), pv (.int .i64 x45), pv (.bool (decide (x45 ≤ x41)))]) (Λ := [blk g9 26 cs3]) hs (by kernel_rfl) (by kernel_rfl) (by kernel_rfl) ⟨⟨⟨⟨⟨⟨⟨⟨⟨⟨trivial, ?_⟩, ?_⟩, ?_⟩, ?_⟩, ?_⟩, ?_⟩, ?_⟩, ?_⟩, ?_⟩, ?_⟩ ?_
            · intro ρ w Γx Λx hs hu hp
              refine WL.move (v := .slice a6 x5.length c7) (hu 1 rfl) ?_
              exact WL.nil ⟨rfl, _, rfl, rfl, hs.cutG 0 0⟩
            · intro ρ w Γx Λx hs hu hp
              have e46 : ρ 36 = .slice a6 x5.length c7 := (hp 0 rfl).1
              refine WL.call (vs := [.slice a6 x5.length c7]) hs FN47 ⟨e46, trivial⟩ (fun ok hA => quorum_count.calls (x1 := x5) hxx41 (hA.get (Γx.length + 3) (getApp rfl))) ?_
              rintro _ w hs
              exact WL.nil ⟨rfl, _, rfl, rfl, hs.cutG 0 0⟩
            · intro ρ w Γx Λx hs hu hp
              refine WL.move (v := .int .i64 ((x1.Members).length : Int)) (hu 5 rfl) ?_
              exact WL.nil ⟨rfl, _, rfl, rfl, hs.cutG 0 0⟩
            · intro ρ w Γx Λx hs hu hp
              refine WL.fieldAddr (m := 1) (hu 2 rfl) FA26_1 rfl ?_
              exact WL.nil ⟨rfl, _, rfl, rfl, hs.cutG 0 0⟩
            · intro ρ w Γx Λx hs hu hp
              have e47 : ρ 39 = .pointer (some ⟨g9, 1, none⟩) := (hp 3 rfl).1
              refine WL.fieldAddr (m := 3) e47 FA23_2 rfl ?_
              exact WL.nil ⟨rfl, _, rfl, rfl, hs.cutG 0 0⟩
            · intro ρ w Γx Λx hs hu hp
              have e48 : ρ 40 = .pointer (some ⟨g9, 3, none⟩) := (hp 4 rfl).1
              refine WL.loadF (z := x1.Rule.Faulty) (F_api_View_Rule.comp F_api_Rule_Faulty) hs (Λx.length + 0) (getApp rfl) (Γx.length + 2) (getApp rfl) rfl TI3 (.inr rfl) e48 rfl (fun v42 hs => ?_)
              obtain rfl := hs.int 0 rfl
              exact WL.nil ⟨rfl, _, rfl, rfl, hs.cutG 0 1⟩
            · intro ρ w Γx Λx hs hu hp
              have e49 : ρ 38 = .int .i64 ((x1.Members).length : Int) := (hp 2 rfl).1
              have e50 : ρ 41 = .int .i64 x1.Rule.Faulty := (hp 5 rfl).1
              refine WL.bin (v := .int .i64 x43) e49 e50 (ib_as ex43 (ib_add _ _ _)) ?_
              exact WL.nil ⟨rfl, _, rfl, rfl, hs.cutG 0 0⟩
            · intro ρ w Γx Λx hs hu hp
              have e51 : ρ 42 = .int .i64 x43 := (hp 6 rfl).1
              refine WL.bin (v := .int .i64 x44) e51 rfl (ib_as ex44 (ib_add _ _ _)) ?_
              exact WL.nil ⟨rfl, _, rfl, rfl, hs.cutG 0 0⟩
            · intro ρ w Γx Λx hs hu hp
              have e52 : ρ 43 = .int .i64 x44 := (hp 7 rfl).1
              refine WL.bin (v := .int .i64 x45) e52 rfl (ib_as ex45 (ib_quo _ _ _ (by decide))) ?_
              exact WL.nil ⟨rfl, _, rfl, rfl, hs.cutG 0 0⟩
            · intro ρ w Γx Λx hs hu hp
              have e53 : ρ 37 = .int .i64 x41 := (hp 1 rfl).1
              have e54 : ρ 44 = .int .i64 x45 := (hp 8 rfl).1
              refine WL.bin (v := .bool (decide (x45 ≤ x41))) e53 e54 (ib_geq _ _ _) ?_
              exact WL.nil ⟨rfl, _, rfl, rfl, hs.cutG 0 0⟩
            · intro ρ w hs hu55 hp
              obtain ⟨⟨⟨⟨⟨⟨⟨⟨⟨⟨_, hp0_⟩, hp1_⟩, hp2_⟩, hp3_⟩, hp4_⟩, hp5_⟩, hp6_⟩, hp7_⟩, hp8_⟩, hp9_⟩ := hp
              have hs : St ok (bz w0) w [vl (tInt .i64) x1.Rule.Kind (.int .i64 x1.Rule.Kind), vl (tSlice t_api_Member) x1.Members (.slice a12 (x1.Members).length c13), vl t_api_View x1 (.agg cs3.toArray), vl (tSlice tBool) x5 (.slice a6 x5.length c7)] [blk g9 26 cs3] := hs
              have e56 : ρ 45 = .bool (decide (x45 ≤ x41)) := hp9_
              have e57 : ρ 44 = .int .i64 x45 := hp8_
              have e58 : ρ 43 = .int .i64 x44 := hp7_
              have e59 : ρ 42 = .int .i64 x43 := hp6_
              have e60 : ρ 41 = .int .i64 x1.Rule.Faulty := hp5_
              have e61 : ρ 40 = .pointer (some ⟨g9, 3, none⟩) := hp4_
              have e62 : ρ 39 = .pointer (some ⟨g9, 1, none⟩) := hp3_
              have e63 : ρ 38 = .int .i64 ((x1.Members).length : Int) := hp2_
              have e64 : ρ 37 = .int .i64 x41 := hp1_
              have e65 : ρ 36 = .slice a6 x5.length c7 := hp0_
              refine WA.step [10] (by kernel_rfl) (by simp) ⟨?_, trivial⟩
              refine WL.assign (v := .bool (decide (x45 ≤ x41))) e56 ?_
              refine WL.nil ⟨rfl, _, rfl, ?_⟩
              refine WA.done (by kernel_rfl) ?_
              refine hK40 _ _ ?_
              refine W.ret ?_
              have hr := Option.some.inj hf; subst hr
              exact ⟨_, resOk_one rfl rfl, (), rfl, (hs.mask []).pick []⟩
          · refine W.cond_false (bool_tr rfl hc39) ?_
            refine W.skip ?_
            refine hK18 _ _ ?_
            refine W.seqK fun K66 hK66 => ?_
            refine W.region ?_
            refine WL.assign (v := .bool false) rfl ?_
            refine WL.nil ?_
            refine hK66 _ _ ?_
            refine W.ret ?_
            have hr := Option.some.inj hf; subst hr
            exact ⟨_, resOk_one rfl rfl, (), rfl, (hs.mask []).pick []⟩
/-! elasticstore/quorum.IsQuorum: function 18 -/
theorem quorum_IsQuorum.calls {ok : Nat → Prop} {w0 : World} {x1 : api_View} {x5 : List Int} {v2 : Value} {a6 : Option Addr} {c7 : Nat} {r : Bool} (hf : quorum_IsQuorum x1 x5 = some r) (i0 : (vl t_api_View x1 v2).holds ok w0) (i1 : (vl (tSlice (tInt .i64)) x5 (.slice a6 x5.length c7)).holds ok w0) :
    Calls Try.prog 18 #[v2, .slice a6 x5.length c7] w0 fun e w' => ∃ v, e = .returned v ∧ ∃ y : Unit, v = .bool r ∧ St ok (bz w0) w' [] [] := by
  unfold quorum_IsQuorum at hf
  refine calls_of_W (fn := Try.f18) (N := 31) Try.func18 rfl Try.ntmps18 rfl ?_
  have hs : St ok (bz w0) w0 [vl t_api_View x1 v2, vl (tSlice (tInt .i64)) x5 (.slice a6 x5.length c7)] [] := St.init (All.cons i0 (All.cons i1 All.nil))
  clear i0 i1
  obtain ⟨cs3, hl4, rfl⟩ := hs.aggv (n := 4) 0 rfl rfl rfl
  refine W.seqK fun K8 hK8 => ?_
  refine W.region ?_
  refine WL.box (vs := cs3) hs rfl rfl (fun g9 w hs => ?_)
  refine WL.assign (v := .bool false) rfl ?_
  refine WL.nil ?_
  refine hK8 _ _ ?_
  refine W.seqK fun K10 hK10 => ?_
  refine W.region ?_
  refine WL.fieldAddr (m := 0) rfl FA26_0 rfl ?_
  refine WL.loadF (z := x1.Members) F_api_View_Members hs 0 rfl 0 rfl rfl TI24 (.inr rfl) rfl rfl (fun v11 hs => ?_)
  obtain ⟨a12, c13, rfl⟩ := hs.slice 0 rfl
  refine WL.len (v := .slice a12 (x1.Members).length c13) rfl (len_slice UN24) ?_
  obtain ⟨x17, hxx17, hf⟩ := bindE hf
  refine WL.makeSlice (z := false) (A := tBool) hs UN52 EI4 rfl rfl (fun ok => rfl) hxx17 (by decide) (fun v14 w hs => ?_)
  obtain ⟨a15, n18, c16, rfl⟩ := hs.ownv3 0 rfl
  refine WL.assign (v := .slice a15 n18 c16) rfl ?_
  refine WL.nil ?_
  refine hK10 _ _ ?_
  refine W.seqK fun K19 hK19 => ?_
  have Jk22 : ∀ (x20 : List Bool) (ρ : Env) (w : World), ρ 2 = .pointer (some ⟨g9, 0, none⟩) → ρ 5 = .slice a15 n18 c16 → St ok (bz w0) w [vl t_api_View x1 (.agg cs3.toArray)] [own tBool 4 (.slice a15 n18 c16) x20, blk g9 26 cs3] → quorum_IsQuorum.j1 x1 x20 = some r → K19 ρ w := by
    intro x20 ρ w h21_2 h21_5 hs hf
    refine hK19 _ _ ?_
    unfold quorum_IsQuorum.j1 at hf
    refine W.seqK fun K23 hK23 => ?_
    refine W.region ?_
    refine WL.loadAll hs 1 rfl TI26 h21_2 hl4 ?_
    refine WL.move (v := .slice a15 n18 c16) h21_5 ?_
    obtain ⟨x24, hxx24, hf⟩ := bindE hf
    refine WL.callL (vs := [.agg cs3.toArray, .slice a15 x20.length c16]) hs FN33 ⟨rfl, ⟨(Eq.trans rfl (sl_len (hs.ownLen 0 rfl))), trivial⟩⟩ (quorum_contains.calls (x1 := x1) (x5 := x20) hxx24 (hs.allT.get 0 rfl) (hs.ownN 0 rfl)) ?_
    rintro _ w hs
    refine WL.assign (v := .bool x24) rfl ?_
    refine WL.nil ?_
    refine hK23 _ _ ?_
    refine W.ret ?_
    have hr := Option.some.inj hf; subst hr
    exact ⟨_, resOk_one rfl rfl, (), rfl, (hs.mask []).pick []⟩
  refine W.seqK fun K25 hK25 => ?_
  refine W.region ?_
  refine WL.fieldAddr (m := 0) rfl FA26_0 rfl ?_
  refine WL.loadF (z := x1.Members) F_api_View_Members hs 1 rfl 1 rfl rfl TI24 (.inr rfl) rfl rfl (fun v26 hs => ?_)
  obtain ⟨a27, c28, rfl⟩ := hs.slice 0 rfl
  refine WL.len (v := .slice a27 (x1.Members).length c28) rfl (len_slice UN24) ?_
  refine WL.move (v := .int .i64 0) rfl ?_
  refine WL.nil ?_
  refine hK25 _ _ ?_
  refine W.block ?_
  obtain ⟨bs32, hbs32, hfs32⟩ := bindE hf
  refine W.loop hbs32 (fun s ρ w => match s with | (x29, x31) => ρ 1 = .slice a6 x5.length c7 ∧ ρ 2 = .pointer (some ⟨g9, 0, none⟩) ∧ ρ 5 = .slice a15 n18 c16 ∧ ρ 13 = .slice a27 (x1.Members).length c28 ∧ ρ 14 = .int .i64 ((x1.Members).length : Int) ∧ ρ 15 = .int .i64 x31 ∧ St ok (bz w0) w [vl (tSlice (tInt .i64)) x5 (.slice a6 x5.length c7), vl (tSlice t_api_Member) x1.Members (.slice a27 (x1.Members).length c28), vl t_api_View x1 (.agg cs3.toArray)] [own tBool 4 (.slice a15 n18 c16) x29, blk g9 26 cs3]) ⟨rfl, rfl, rfl, rfl, rfl, rfl, (hs.mask [true, true]).pick [3, 0, 2]⟩ ?_
  intro s ρ w os32 hI hf hbbs32
  obtain ⟨x29, x31⟩ := s
  obtain ⟨h30_1, h30_2, h30_5, h30_13, h30_14, h30_15, hs⟩ := hI
  unfold quorum_IsQuorum.l1 at hf
  refine W.seqK fun K33 hK33 => ?_
  refine W.region ?_
  refine WL.bin (v := .bool (decide (x31 < ((x1.Members).length : Int)))) h30_15 h30_14 (ib_lss _ _ _) ?_
  refine WL.nil ?_
  refine hK33 _ _ ?_
  refine W.seqK fun K34 hK34 => ?_
  rcases iteE hf with ⟨hc35, hf⟩ | ⟨hc35, hf⟩
  · refine W.cond_true (bool_tr rfl hc35) ?_
    refine W.skip ?_
    refine hK34 _ _ ?_
    refine W.seqK fun K36 hK36 => ?_
    refine W.block ?_
    refine W.seqK fun K37 hK37 => ?_
    refine W.region ?_
    refine WL.move (v := .int .i64 x31) h30_15 ?_
    obtain ⟨x38, hxx38, hf⟩ := bindE hf
    refine WL.indexAddr hs 1 rfl UN24 TI44 h30_13 h30_15 hxx38 (fun ad39 hs => ?_)
    refine WL.loadP hs 0 rfl TI44 (.inl rfl) rfl (fun v40 hs => ?_)
    obtain ⟨cs41, hl42, rfl⟩ := hs.aggv (n := 2) 0 rfl rfl rfl
    refine WL.alloc hs ZV44 (fun g43 w hs => ?_)
    refine WL.assign (v := .int .i64 x31) rfl ?_
    refine WL.storeAll (vs := cs41) hs 0 rfl TI44 rfl rfl rfl hl42 (hs.ones 0 rfl rfl) rfl (fun w hs => ?_)
    refine WL.nil ?_
    refine hK37 _ _ ?_
    refine W.region ?_
    refine WL.move (v := .slice a15 n18 c16) h30_5 ?_
    refine WL.move (v := .int .i64 x31) rfl ?_
    refine WL.move (v := .slice a6 x5.length c7) h30_1 ?_
    refine WL.fieldAddr (m := 0) rfl FA44_0 rfl ?_
    refine WL.loadF (z := x38.Server) F_api_Member_Server hs 0 rfl 0 rfl rfl TI3 (.inr rfl) rfl rfl (fun v44 hs => ?_)
    obtain rfl := hs.int 0 rfl
    obtain ⟨x45, hxx45, hf⟩ := bindE hf
    refine WL.call (vs := [.slice a6 x5.length c7, .int .i64 x38.Server]) hs FN32 ⟨rfl, ⟨rfl, trivial⟩⟩ (fun ok hA => slices_Contains_int.calls (x1 := x5) (x4 := x38.Server) hxx45 (hA.get 3 rfl)) ?_
    rintro _ w hs
    obtain ⟨x46, hxx46, hf⟩ := bindE hf
    refine WL.indexAddrO hs 1 rfl UN52 TI4 rfl rfl hxx46 (fun ad47 hatad47 => ?_)
    obtain ⟨x48, exx48, hf⟩ := letE hf
    refine WL.storeO (y := x45) (vs := [.bool x45]) (zs := x48) hs 1 rfl TI4 hatad47 hxx46 rfl rfl rfl (fun ok hA => rfl) exx48 (fun w hs => ?_)
    refine WL.nil ?_
    refine hK36 _ _ ?_
    refine W.region ?_
    obtain ⟨x49, ex49, hf⟩ := letE hf
    refine WL.bin (v := .int .i64 x49) h30_15 rfl (ib_as ex49 (ib_add _ _ _)) ?_
    refine WL.move (v := .int .i64 x49) rfl ?_
    refine WL.nil ?_
    exact ⟨_, (Option.some.inj hf).symm, h30_1, h30_2, h30_5, h30_13, h30_14, rfl, (hs.mask [false, true, true]).pick [3, 4, 5]⟩
  · refine W.cond_false (bool_tr rfl hc35) ?_
    refine W.exit ?_
    have hr := Option.some.inj hf; subst hr
    have hr := hbbs32 _ rfl; subst hr
    have hf := hfs32
    exact Jk22 x29 _ _ h30_2 h30_5 ((hs.mask [true, true]).pick [2]) hf
end Go.Proofs.Ytodebgfppmcjlaa
