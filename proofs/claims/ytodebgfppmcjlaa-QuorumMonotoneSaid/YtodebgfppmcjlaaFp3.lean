import Derived.Test.YtodebgfppmcjlaaFh
import Derived.Test.YtodebgfppmcjlaaFp2
set_option linter.unusedVariables false
set_option linter.unusedSimpArgs false
namespace Go.Proofs.Ytodebgfppmcjlaa
open Go Go.RowKit Go.Proofs.YtodebgfppmcjlaaL
set_option maxRecDepth 100000
set_option maxHeartbeats 4000000
/-! cmp.isNaN[int]: function 65 -/
theorem cmp_isNaN_int.calls {ok : Nat → Prop} {w0 : World} {x1 : Int}  {r : Bool} (hf : cmp_isNaN_int x1 = some r)  :
    Calls Try.prog 65 #[.int .i64 x1] w0 fun e w' => ∃ v, e = .returned v ∧ ∃ y : Unit, v = .bool r ∧ St ok (bz w0) w' [] [] := by
  unfold cmp_isNaN_int at hf
  refine calls_of_W (fn := Try.f65) (N := 6) Try.func65 rfl Try.ntmps65 rfl ?_
  have hs : St ok (bz w0) w0 [] [] := St.init All.nil
  refine W.seqK fun K2 hK2 => ?_
  refine W.region ?_
  refine WL.assign (v := .bool false) rfl ?_
  refine WL.nil ?_
  refine hK2 _ _ ?_
  refine W.seqK fun K3 hK3 => ?_
  refine W.region ?_
  refine WL.move (v := .int .i64 x1) rfl ?_
  refine WL.move (v := .int .i64 x1) rfl ?_
  refine WL.bin (v := .bool (x1 != x1)) rfl rfl (ib_neq _ _ _) ?_
  refine WL.assign (v := .bool (x1 != x1)) rfl ?_
  refine WL.nil ?_
  refine hK3 _ _ ?_
  refine W.ret ?_
  have hr := Option.some.inj hf; subst hr
  exact ⟨_, resOk_one rfl rfl, (), rfl, (hs.mask []).pick []⟩
/-! cmp.Compare[int]: function 52 -/
theorem cmp_Compare_int.calls {ok : Nat → Prop} {w0 : World} {x1 : Int} {x2 : Int}  {r : Int} (hf : cmp_Compare_int x1 x2 = some r)  :
    Calls Try.prog 52 #[.int .i64 x1, .int .i64 x2] w0 fun e w' => ∃ v, e = .returned v ∧ ∃ y : Unit, v = .int .i64 r ∧ St ok (bz w0) w' [] [] := by
  unfold cmp_Compare_int at hf
  refine calls_of_W (fn := Try.f52) (N := 20) Try.func52 rfl Try.ntmps52 rfl ?_
  have hs : St ok (bz w0) w0 [] [] := St.init All.nil
  refine W.seqK fun K3 hK3 => ?_
  refine W.region ?_
  refine WL.assign (v := .int .i64 0) rfl ?_
  refine WL.nil ?_
  refine hK3 _ _ ?_
  refine W.seqK fun K4 hK4 => ?_
  refine W.region ?_
  refine WL.move (v := .int .i64 x1) rfl ?_
  obtain ⟨x5, hxx5, hf⟩ := bindE hf
  refine WL.call (vs := [.int .i64 x1]) hs FN65 ⟨rfl, trivial⟩ (fun ok hA => cmp_isNaN_int.calls (x1 := x1) hxx5) ?_
  rintro _ w hs
  refine WL.assign (v := .bool x5) rfl ?_
  refine WL.nil ?_
  refine hK4 _ _ ?_
  refine W.seqK fun K6 hK6 => ?_
  refine W.region ?_
  refine WL.move (v := .int .i64 x2) rfl ?_
  obtain ⟨x7, hxx7, hf⟩ := bindE hf
  refine WL.call (vs := [.int .i64 x2]) hs FN65 ⟨rfl, trivial⟩ (fun ok hA => cmp_isNaN_int.calls (x1 := x2) hxx7) ?_
  rintro _ w hs
  refine WL.assign (v := .bool x7) rfl ?_
  refine WL.nil ?_
  refine hK6 _ _ ?_
  refine W.seqK fun K8 hK8 => ?_
  refine W.seqK fun K9 hK9 => ?_
  refine W.region ?_
  refine WL.move (v := .bool x5) rfl ?_
  refine WL.nil ?_
  refine hK9 _ _ ?_
  rcases iteE hf with ⟨hc10, hf⟩ | ⟨hc10, hf⟩
  · refine W.cond_true (bool_tr rfl hc10) ?_
    refine W.seqK fun K11 hK11 => ?_
    refine W.seqK fun K12 hK12 => ?_
    refine W.region ?_
    refine WL.move (v := .bool x7) rfl ?_
    refine WL.nil ?_
    refine hK12 _ _ ?_
    rcases iteE hf with ⟨hc13, hf⟩ | ⟨hc13, hf⟩
    · refine W.cond_true (bool_tr rfl hc13) ?_
      refine W.seqK fun K14 hK14 => ?_
      refine W.region ?_
      refine WL.assign (v := .int .i64 0) rfl ?_
      refine WL.nil ?_
      refine hK14 _ _ ?_
      refine W.ret ?_
      have hr := Option.some.inj hf; subst hr
      exact ⟨_, resOk_one rfl rfl, (), rfl, (hs.mask []).pick []⟩
    · refine W.cond_false (bool_tr rfl hc13) ?_
      refine W.skip ?_
      refine hK11 _ _ ?_
      refine W.seqK fun K15 hK15 => ?_
      refine W.region ?_
      refine WL.assign (v := .int .i64 (-1)) rfl ?_
      refine WL.nil ?_
      refine hK15 _ _ ?_
      refine W.ret ?_
      have hr := Option.some.inj hf; subst hr
      exact ⟨_, resOk_one rfl rfl, (), rfl, (hs.mask []).pick []⟩
  · refine W.cond_false (bool_tr rfl hc10) ?_
    refine W.skip ?_
    refine hK8 _ _ ?_
    refine W.seqK fun K16 hK16 => ?_
    refine W.seqK fun K17 hK17 => ?_
    refine W.region ?_
    refine WL.move (v := .bool x7) rfl ?_
    refine WL.nil ?_
    refine hK17 _ _ ?_
    rcases iteE hf with ⟨hc18, hf⟩ | ⟨hc18, hf⟩
    · refine W.cond_true (bool_tr rfl hc18) ?_
      refine W.seqK fun K19 hK19 => ?_
      refine W.region ?_
      refine WL.assign (v := .int .i64 1) rfl ?_
      refine WL.nil ?_
      refine hK19 _ _ ?_
      refine W.ret ?_
      have hr := Option.some.inj hf; subst hr
      exact ⟨_, resOk_one rfl rfl, (), rfl, (hs.mask []).pick []⟩
    · refine W.cond_false (bool_tr rfl hc18) ?_
      refine W.skip ?_
      refine hK16 _ _ ?_
      refine W.seqK fun K20 hK20 => ?_
      refine W.seqK fun K21 hK21 => ?_
      refine W.region ?_
      refine WL.move (v := .int .i64 x1) rfl ?_
      refine WL.move (v := .int .i64 x2) rfl ?_
      refine WL.bin (v := .bool (decide (x1 < x2))) rfl rfl (ib_lss _ _ _) ?_
      refine WL.nil ?_
      refine hK21 _ _ ?_
      rcases iteE hf with ⟨hc22, hf⟩ | ⟨hc22, hf⟩
      · refine W.cond_true (bool_tr rfl hc22) ?_
        refine W.seqK fun K23 hK23 => ?_
        refine W.region ?_
        refine WL.assign (v := .int .i64 (-1)) rfl ?_
        refine WL.nil ?_
        refine hK23 _ _ ?_
        refine W.ret ?_
        have hr := Option.some.inj hf; subst hr
        exact ⟨_, resOk_one rfl rfl, (), rfl, (hs.mask []).pick []⟩
      · refine W.cond_false (bool_tr rfl hc22) ?_
        refine W.skip ?_
        refine hK20 _ _ ?_
        refine W.seqK fun K24 hK24 => ?_
        refine W.seqK fun K25 hK25 => ?_
        refine W.region ?_
        refine WL.move (v := .int .i64 x1) rfl ?_
        refine WL.move (v := .int .i64 x2) rfl ?_
        refine WL.bin (v := .bool (decide (x2 < x1))) rfl rfl (ib_gtr _ _ _) ?_
        refine WL.nil ?_
        refine hK25 _ _ ?_
        rcases iteE hf with ⟨hc26, hf⟩ | ⟨hc26, hf⟩
        · refine W.cond_true (bool_tr rfl hc26) ?_
          refine W.seqK fun K27 hK27 => ?_
          refine W.region ?_
          refine WL.assign (v := .int .i64 1) rfl ?_
          refine WL.nil ?_
          refine hK27 _ _ ?_
          refine W.ret ?_
          have hr := Option.some.inj hf; subst hr
          exact ⟨_, resOk_one rfl rfl, (), rfl, (hs.mask []).pick []⟩
        · refine W.cond_false (bool_tr rfl hc26) ?_
          refine W.skip ?_
          refine hK24 _ _ ?_
          refine W.seqK fun K28 hK28 => ?_
          refine W.region ?_
          refine WL.assign (v := .int .i64 0) rfl ?_
          refine WL.nil ?_
          refine hK28 _ _ ?_
          refine W.ret ?_
          have hr := Option.some.inj hf; subst hr
          exact ⟨_, resOk_one rfl rfl, (), rfl, (hs.mask []).pick []⟩
/-! slices.Compare[[]int,int]: function 37 -/
theorem slices_Compare_int.calls {ok : Nat → Prop} {w0 : World} {x1 : List Int} {x4 : List Int} {a2 : Option Addr} {c3 : Nat} {a5 : Option Addr} {c6 : Nat} {r : Int} (hf : slices_Compare_int x1 x4 = some r) (i0 : (vl (tSlice (tInt .i64)) x1 (.slice a2 x1.length c3)).holds ok w0) (i1 : (vl (tSlice (tInt .i64)) x4 (.slice a5 x4.length c6)).holds ok w0) :
    Calls Try.prog 37 #[.slice a2 x1.length c3, .slice a5 x4.length c6] w0 fun e w' => ∃ v, e = .returned v ∧ ∃ y : Unit, v = .int .i64 r ∧ St ok (bz w0) w' [] [] := by
  unfold slices_Compare_int at hf
  refine calls_of_W (fn := Try.f37) (N := 36) Try.func37 rfl Try.ntmps37 rfl ?_
  have hs : St ok (bz w0) w0 [vl (tSlice (tInt .i64)) x1 (.slice a2 x1.length c3), vl (tSlice (tInt .i64)) x4 (.slice a5 x4.length c6)] [] := St.init (All.cons i0 (All.cons i1 All.nil))
  clear i0 i1
  refine W.seqK fun K7 hK7 => ?_
  refine W.region ?_
  refine WL.assign (v := .int .i64 0) rfl ?_
  refine WL.nil ?_
  refine hK7 _ _ ?_
  refine W.seqK fun K8 hK8 => ?_
  have Jk10 : ∀  (ρ : Env) (w : World), ρ 0 = .slice a2 x1.length c3 → ρ 1 = .slice a5 x4.length c6 → St ok (bz w0) w [vl (tSlice (tInt .i64)) x1 (.slice a2 x1.length c3), vl (tSlice (tInt .i64)) x4 (.slice a5 x4.length c6)] [] → slices_Compare_int.j1 x1 x4 = some r → K8 ρ w := by
    intro  ρ w h9_0 h9_1 hs hf
    refine hK8 _ _ ?_
    unfold slices_Compare_int.j1 at hf
    refine W.seqK fun K11 hK11 => ?_
    refine W.seqK fun K12 hK12 => ?_
    refine W.region ?_
    refine WL.move (v := .slice a2 x1.length c3) h9_0 ?_
    refine WL.len (v := .slice a2 x1.length c3) rfl (len_slice UN33) ?_
    refine WL.move (v := .slice a5 x4.length c6) h9_1 ?_
    refine WL.len (v := .slice a5 x4.length c6) rfl (len_slice UN33) ?_
    refine WL.bin (v := .bool (decide ((x1.length : Int) < (x4.length : Int)))) rfl rfl (ib_lss _ _ _) ?_
    refine WL.nil ?_
    refine hK12 _ _ ?_
    rcases iteE hf with ⟨hc13, hf⟩ | ⟨hc13, hf⟩
    · refine W.cond_true (bool_tr rfl hc13) ?_
      refine W.seqK fun K14 hK14 => ?_
      refine W.region ?_
      refine WL.assign (v := .int .i64 (-1)) rfl ?_
      refine WL.nil ?_
      refine hK14 _ _ ?_
      refine W.ret ?_
      have hr := Option.some.inj hf; subst hr
      exact ⟨_, resOk_one rfl rfl, (), rfl, (hs.mask []).pick []⟩
    · refine W.cond_false (bool_tr rfl hc13) ?_
      refine W.skip ?_
      refine hK11 _ _ ?_
      refine W.seqK fun K15 hK15 => ?_
      refine W.region ?_
      refine WL.assign (v := .int .i64 0) rfl ?_
      refine WL.nil ?_
      refine hK15 _ _ ?_
      refine W.ret ?_
      have hr := Option.some.inj hf; subst hr
      exact ⟨_, resOk_one rfl rfl, (), rfl, (hs.mask []).pick []⟩
  refine W.seqK fun K16 hK16 => ?_
  refine W.region ?_
  refine WL.move (v := .slice a2 x1.length c3) rfl ?_
  refine WL.len (v := .slice a2 x1.length c3) rfl (len_slice UN33) ?_
  refine WL.move (v := .int .i64 0) rfl ?_
  refine WL.nil ?_
  refine hK16 _ _ ?_
  refine W.block ?_
  obtain ⟨bs19, hbs19, hfs19⟩ := bindE hf
  refine W.loop hbs19 (fun s ρ w => match s with | x18 => ρ 0 = .slice a2 x1.length c3 ∧ ρ 1 = .slice a5 x4.length c6 ∧ ρ 9 = .slice a2 x1.length c3 ∧ ρ 10 = .int .i64 (x1.length : Int) ∧ ρ 11 = .int .i64 x18 ∧ St ok (bz w0) w [vl (tSlice (tInt .i64)) x1 (.slice a2 x1.length c3), vl (tSlice (tInt .i64)) x4 (.slice a5 x4.length c6)] []) ⟨rfl, rfl, rfl, rfl, rfl, (hs.mask []).pick [0, 1]⟩ ?_
  intro x18 ρ w os19 hI hf hbbs19
  obtain ⟨h17_0, h17_1, h17_9, h17_10, h17_11, hs⟩ := hI
  unfold slices_Compare_int.l1 at hf
  refine W.seqK fun K20 hK20 => ?_
  refine W.region ?_
  refine WL.bin (v := .bool (decide (x18 < (x1.length : Int)))) h17_11 h17_10 (ib_lss _ _ _) ?_
  refine WL.nil ?_
  refine hK20 _ _ ?_
  refine W.seqK fun K21 hK21 => ?_
  rcases iteE hf with ⟨hc22, hf⟩ | ⟨hc22, hf⟩
  · refine W.cond_true (bool_tr rfl hc22) ?_
    refine W.skip ?_
    refine hK21 _ _ ?_
    refine W.seqK fun K23 hK23 => ?_
    refine W.block ?_
    refine W.seqK fun K24 hK24 => ?_
    refine W.region ?_
    refine WL.move (v := .int .i64 x18) h17_11 ?_
    obtain ⟨x25, hxx25, hf⟩ := bindE hf
    refine WL.indexAddr hs 0 rfl UN33 TI3 h17_9 h17_11 hxx25 (fun ad26 hs => ?_)
    refine WL.loadP hs 0 rfl TI3 (.inr rfl) rfl (fun v27 hs => ?_)
    obtain rfl := hs.int 0 rfl
    refine WL.assign (v := .int .i64 x18) rfl ?_
    refine WL.assign (v := .int .i64 x25) rfl ?_
    refine WL.nil ?_
    refine hK24 _ _ ?_
    refine W.seqK fun K28 hK28 => ?_
    refine W.seqK fun K29 hK29 => ?_
    refine W.region ?_
    refine WL.move (v := .int .i64 x18) rfl ?_
    refine WL.move (v := .slice a5 x4.length c6) h17_1 ?_
    refine WL.len (v := .slice a5 x4.length c6) rfl (len_slice UN33) ?_
    refine WL.bin (v := .bool (decide ((x4.length : Int) ≤ x18))) rfl rfl (ib_geq _ _ _) ?_
    refine WL.nil ?_
    refine hK29 _ _ ?_
    rcases iteE hf with ⟨hc30, hf⟩ | ⟨hc30, hf⟩
    · refine W.cond_true (bool_tr rfl hc30) ?_
      refine W.seqK fun K31 hK31 => ?_
      refine W.region ?_
      refine WL.assign (v := .int .i64 1) rfl ?_
      refine WL.nil ?_
      refine hK31 _ _ ?_
      refine W.ret ?_
      have hr := Option.some.inj hf; subst hr
      have hr := hbbs19 _ rfl; subst hr
      have hf := hfs19
      have hr := Option.some.inj hf; subst hr
      exact ⟨_, resOk_one rfl rfl, (), rfl, (hs.mask []).pick []⟩
    · refine W.cond_false (bool_tr rfl hc30) ?_
      refine W.skip ?_
      refine hK28 _ _ ?_
      refine W.seqK fun K32 hK32 => ?_
      refine W.region ?_
      refine WL.move (v := .slice a5 x4.length c6) h17_1 ?_
      refine WL.move (v := .int .i64 x18) rfl ?_
      obtain ⟨x33, hxx33, hf⟩ := bindE hf
      refine WL.indexAddr hs 3 rfl UN33 TI3 rfl rfl hxx33 (fun ad34 hs => ?_)
      refine WL.loadP hs 0 rfl TI3 (.inr rfl) rfl (fun v35 hs => ?_)
      obtain rfl := hs.int 0 rfl
      refine WL.assign (v := .int .i64 x33) rfl ?_
      refine WL.nil ?_
      refine hK32 _ _ ?_
      refine W.seqK fun K36 hK36 => ?_
      refine W.region ?_
      refine WL.move (v := .int .i64 x25) rfl ?_
      refine WL.move (v := .int .i64 x33) rfl ?_
      obtain ⟨x37, hxx37, hf⟩ := bindE hf
      refine WL.call (vs := [.int .i64 x25, .int .i64 x33]) hs FN52 ⟨rfl, ⟨rfl, trivial⟩⟩ (fun ok hA => cmp_Compare_int.calls (x1 := x25) (x2 := x33) hxx37) ?_
      rintro _ w hs
      refine WL.assign (v := .int .i64 x37) rfl ?_
      refine WL.nil ?_
      refine hK36 _ _ ?_
      refine W.seqK fun K38 hK38 => ?_
      refine W.region ?_
      refine WL.move (v := .int .i64 x37) rfl ?_
      refine WL.bin (v := .bool (x37 != 0)) rfl rfl (ib_neq _ _ _) ?_
      refine WL.nil ?_
      refine hK38 _ _ ?_
      rcases iteE hf with ⟨hc39, hf⟩ | ⟨hc39, hf⟩
      · refine W.cond_true (bool_tr rfl hc39) ?_
        refine W.seqK fun K40 hK40 => ?_
        refine W.region ?_
        refine WL.move (v := .int .i64 x37) rfl ?_
        refine WL.assign (v := .int .i64 x37) rfl ?_
        refine WL.nil ?_
        refine hK40 _ _ ?_
        refine W.ret ?_
        have hr := Option.some.inj hf; subst hr
        have hr := hbbs19 _ rfl; subst hr
        have hf := hfs19
        have hr := Option.some.inj hf; subst hr
        exact ⟨_, resOk_one rfl rfl, (), rfl, (hs.mask []).pick []⟩
      · refine W.cond_false (bool_tr rfl hc39) ?_
        refine W.skip ?_
        refine hK23 _ _ ?_
        refine W.region ?_
        obtain ⟨x41, ex41, hf⟩ := letE hf
        refine WL.bin (v := .int .i64 x41) h17_11 rfl (ib_as ex41 (ib_add _ _ _)) ?_
        refine WL.move (v := .int .i64 x41) rfl ?_
        refine WL.nil ?_
        exact ⟨_, (Option.some.inj hf).symm, h17_0, h17_1, h17_9, h17_10, rfl, (hs.mask []).pick [4, 5]⟩
  · refine W.cond_false (bool_tr rfl hc22) ?_
    refine W.exit ?_
    have hr := Option.some.inj hf; subst hr
    have hr := hbbs19 _ rfl; subst hr
    have hf := hfs19
    exact Jk10  _ _ h17_0 h17_1 ((hs.mask []).pick [0, 1]) hf
/-! elasticstore/quorum.Minimal: function 20 -/
theorem quorum_Minimal.calls {ok : Nat → Prop} {w0 : World} {x1 : api_View} {v2 : Value} {r : List (List Int)} (hf : quorum_Minimal x1 = some r) (i0 : (vl t_api_View x1 v2).holds ok w0) :
    Calls Try.prog 20 #[v2] w0 fun e w' => ∃ v, e = .returned v ∧ ∃ y : (Option Addr × Nat × Nat), v = .slice y.1 y.2.1 y.2.2 ∧ St ok (bz w0) w' [] [own (tSlice (tInt .i64)) 33 (.slice y.1 y.2.1 y.2.2) r] := by
  unfold quorum_Minimal at hf
  refine calls_of_W (fn := Try.f20) (N := 43) Try.func20 rfl Try.ntmps20 rfl ?_
  have hs : St ok (bz w0) w0 [vl t_api_View x1 v2] [] := St.init (All.cons i0 All.nil)
  clear i0
  obtain ⟨cs3, hl4, rfl⟩ := hs.aggv (n := 4) 0 rfl rfl rfl
  refine W.seqK fun K5 hK5 => ?_
  refine W.region ?_
  refine WL.box (vs := cs3) hs rfl rfl (fun g6 w hs => ?_)
  refine WL.assign (v := .slice none 0 0) rfl ?_
  refine WL.nil ?_
  refine hK5 _ _ ?_
  refine W.seqK fun K7 hK7 => ?_
  refine W.region ?_
  refine WL.assign (v := .slice none 0 0) rfl ?_
  refine WL.nil ?_
  refine hK7 _ _ ?_
  refine W.seqK fun K8 hK8 => ?_
  have hs := hs.ownNil (tSlice (tInt .i64)) 33
  have Jk14 : ∀ (x10 : List (List Int)) (a11 : Option Addr) (c12 : Nat) (n13 : Nat) (ρ : Env) (w : World), ρ 3 = .slice a11 n13 c12 → St ok (bz w0) w [] [own (tSlice (tInt .i64)) 33 (.slice a11 n13 c12) x10] → quorum_Minimal.j1 x10 = some r → K8 ρ w := by
    intro x10 a11 c12 n13 ρ w h9_3 hs hf
    refine hK8 _ _ ?_
    unfold quorum_Minimal.j1 at hf
    refine W.seqK fun K15 hK15 => ?_
    refine W.region ?_
    refine WL.move (v := .slice a11 n13 c12) h9_3 ?_
    obtain ⟨x16, hxx16, hf⟩ := bindE hf
    have hs := hs.front 0 rfl
    refine WL.callO (vs := [.slice a11 n13 c12, .func (.func 37) #[] #[]]) [own (tSlice (tInt .i64)) 33 (.slice a11 n13 c12) x10] (Λb := []) hs FN36 ⟨rfl, ⟨rfl, trivial⟩⟩ (fun ok F hs => slices_SortFunc_sl.calls (a0 := a11) (n0 := n13) (c0 := c12) (x1 := x10) hxx16 (hs.pick [])) ?_
    rintro _ w hs
    refine WL.nil ?_
    refine hK15 _ _ ?_
    refine W.seqK fun K17 hK17 => ?_
    refine W.region ?_
    refine WL.move (v := .slice a11 n13 c12) h9_3 ?_
    refine WL.assign (v := .slice a11 n13 c12) rfl ?_
    refine WL.nil ?_
    refine hK17 _ _ ?_
    refine W.ret ?_
    have hr := Option.some.inj hf; subst hr
    exact ⟨_, resOk_one rfl rfl, (a11, n13, c12), rfl, (hs.mask [true]).pick []⟩
  refine W.seqK fun K18 hK18 => ?_
  refine W.region ?_
  refine WL.loadAll hs 1 rfl TI26 rfl hl4 ?_
  obtain ⟨x19, hxx19, hf⟩ := bindE hf
  refine WL.call (vs := [.agg cs3.toArray]) hs FN35 ⟨rfl, trivial⟩ (fun ok hA => quorum_minimal.calls (x1 := x1) hxx19 (hA.get 0 rfl)) ?_
  rintro ⟨a20, n21, c22⟩ w hs
  refine WL.len (v := .slice a20 n21 c22) rfl (len_own hs 0 rfl UN54) ?_
  refine WL.move (v := .int .i64 0) rfl ?_
  refine WL.nil ?_
  refine hK18 _ _ ?_
  refine W.block ?_
  obtain ⟨bs29, hbs29, hfs29⟩ := bindE hf
  refine W.loop hbs29 (fun s ρ w => match s with | (x24, x28) => ∃ (a25 : Option Addr), ∃ (c26 : Nat), ∃ (n27 : Nat), ρ 1 = .pointer (some ⟨g6, 0, none⟩) ∧ ρ 3 = .slice a25 n27 c26 ∧ ρ 10 = .slice a20 n21 c22 ∧ ρ 11 = .int .i64 (x19.length : Int) ∧ ρ 12 = .int .i64 x28 ∧ St ok (bz w0) w [vl t_api_View x1 (.agg cs3.toArray)] [own (tInt .u64) 57 (.slice a20 n21 c22) x19, own (tSlice (tInt .i64)) 33 (.slice a25 n27 c26) x24, blk g6 26 cs3]) ⟨none, 0, 0, rfl, rfl, rfl, rfl, rfl, (hs.mask [true, true, true]).pick [0]⟩ ?_
  intro s ρ w os29 hI hf hbbs29
  obtain ⟨x24, x28⟩ := s
  obtain ⟨a25, c26, n27, h23_1, h23_3, h23_10, h23_11, h23_12, hs⟩ := hI
  unfold quorum_Minimal.l2 at hf
  refine W.seqK fun K30 hK30 => ?_
  refine W.region ?_
  refine WL.bin (v := .bool (decide (x28 < (x19.length : Int)))) h23_12 h23_11 (ib_lss _ _ _) ?_
  refine WL.nil ?_
  refine hK30 _ _ ?_
  refine W.seqK fun K31 hK31 => ?_
  rcases iteE hf with ⟨hc32, hf⟩ | ⟨hc32, hf⟩
  · refine W.cond_true (bool_tr rfl hc32) ?_
    refine W.skip ?_
    refine hK31 _ _ ?_
    refine W.seqK fun K33 hK33 => ?_
    have Jk39 : ∀ (x35 : List (List Int)) (a36 : Option Addr) (c37 : Nat) (n38 : Nat) (ρ : Env) (w : World), ρ 1 = .pointer (some ⟨g6, 0, none⟩) → ρ 3 = .slice a36 n38 c37 → ρ 10 = .slice a20 n21 c22 → ρ 11 = .int .i64 (x19.length : Int) → ρ 12 = .int .i64 x28 → St ok (bz w0) w [vl t_api_View x1 (.agg cs3.toArray)] [own (tInt .u64) 57 (.slice a20 n21 c22) x19, own (tSlice (tInt .i64)) 33 (.slice a36 n38 c37) x35, blk g6 26 cs3] → quorum_Minimal.j2 x28 x35 = some os29 → K33 ρ w := by
      intro x35 a36 c37 n38 ρ w h34_1 h34_3 h34_10 h34_11 h34_12 hs hf
      refine hK33 _ _ ?_
      unfold quorum_Minimal.j2 at hf
      refine W.region ?_
      obtain ⟨x40, ex40, hf⟩ := letE hf
      refine WL.bin (v := .int .i64 x40) h34_12 rfl (ib_as ex40 (ib_add _ _ _)) ?_
      refine WL.move (v := .int .i64 x40) rfl ?_
      refine WL.nil ?_
      exact ⟨_, (Option.some.inj hf).symm, a36, c37, n38, h34_1, h34_3, h34_10, h34_11, rfl, (hs.mask [true, true, true]).pick [0]⟩
    refine W.block ?_
    refine W.seqK fun K41 hK41 => ?_
    refine W.region ?_
    obtain ⟨x42, hxx42, hf⟩ := bindE hf
    refine WL.indexAddrO hs 0 rfl UN54 TI57 h23_10 h23_12 hxx42 (fun ad43 hatad43 => ?_)
    refine WL.loadO hs 0 rfl TI57 (.inr rfl) hatad43 hxx42 rfl (fun v44 hs => ?_)
    obtain rfl := hs.int 0 rfl
    refine WL.assign (v := .int .u64 x42) rfl ?_
    refine WL.nil ?_
    refine hK41 _ _ ?_
    refine W.seqK fun K45 hK45 => ?_
    refine W.region ?_
    refine WL.assign (v := .slice none 0 0) rfl ?_
    refine WL.nil ?_
    refine hK45 _ _ ?_
    refine W.seqK fun K46 hK46 => ?_
    have hs := hs.ownNil (tInt .i64) 3
    have Jk52 : ∀ (x48 : List Int) (a49 : Option Addr) (c50 : Nat) (n51 : Nat) (ρ : Env) (w : World), ρ 1 = .pointer (some ⟨g6, 0, none⟩) → ρ 3 = .slice a25 n27 c26 → ρ 6 = .slice a49 n51 c50 → ρ 10 = .slice a20 n21 c22 → ρ 11 = .int .i64 (x19.length : Int) → ρ 12 = .int .i64 x28 → St ok (bz w0) w [vl t_api_View x1 (.agg cs3.toArray)] [own (tInt .i64) 3 (.slice a49 n51 c50) x48, own (tInt .u64) 57 (.slice a20 n21 c22) x19, own (tSlice (tInt .i64)) 33 (.slice a25 n27 c26) x24, blk g6 26 cs3] → quorum_Minimal.j3 x24 x28 x48 = some os29 → K46 ρ w := by
      intro x48 a49 c50 n51 ρ w h47_1 h47_3 h47_6 h47_10 h47_11 h47_12 hs hf
      refine hK46 _ _ ?_
      unfold quorum_Minimal.j3 at hf
      refine W.region ?_
      refine WL.move (v := .slice a25 n27 c26) h47_3 ?_
      refine WL.move (v := .slice a49 n51 c50) h47_6 ?_
      refine WL.buildSlice (n := 1) (vs := [(0, .slice a49 n51 c50)]) (cs := [.slice a49 n51 c50]) hs ⟨⟨rfl, rfl⟩, trivial⟩ (bls PS36 (by decide) rfl) (fun g53 w hs => ?_)
      obtain rfl := hs.ownLen 1 rfl
      have hs := hs.freezeOwn 1 rfl
      obtain ⟨x54, hxx54, hf⟩ := bindE hf
      obtain ⟨hbx54, hex54⟩ := appE hxx54
      refine WL.append (ys := [x48]) (zs := x54) hs 2 rfl 0 rfl UN36 EI33 rfl rfl (fun ok hA => (Cells.one (T := tSlice (tInt .i64)) (R_one (hA.get 0 rfl)))) hbx54 (by omega) hex54 (fun v55 w hs => ?_)
      obtain ⟨a56, n58, c57, rfl⟩ := hs.ownv3 2 rfl
      refine WL.assign (v := .slice a56 n58 c57) rfl ?_
      refine WL.nil ?_
      exact Jk39 x54 a56 c57 n58 _ _ h47_1 rfl h47_10 h47_11 h47_12 ((hs.mask [false, true, true, true]).pick [1]) hf
    refine W.seqK fun K59 hK59 => ?_
    refine W.region ?_
    refine WL.fieldAddr (m := 0) h23_1 FA26_0 rfl ?_
    refine WL.loadF (z := x1.Members) F_api_View_Members hs 3 rfl 1 rfl rfl TI24 (.inr rfl) rfl rfl (fun v60 hs => ?_)
    obtain ⟨a61, c62, rfl⟩ := hs.slice 0 rfl
    refine WL.len (v := .slice a61 (x1.Members).length c62) rfl (len_slice UN24) ?_
    refine WL.move (v := .int .i64 0) rfl ?_
    refine WL.nil ?_
    refine hK59 _ _ ?_
    refine W.block ?_
    obtain ⟨bs69, hbs69, hfs69⟩ := bindE hf
    refine W.loop hbs69 (fun s ρ w => match s with | (x64, x68) => ∃ (a65 : Option Addr), ∃ (c66 : Nat), ∃ (n67 : Nat), ρ 1 = .pointer (some ⟨g6, 0, none⟩) ∧ ρ 3 = .slice a25 n27 c26 ∧ ρ 5 = .int .u64 x42 ∧ ρ 6 = .slice a65 n67 c66 ∧ ρ 10 = .slice a20 n21 c22 ∧ ρ 11 = .int .i64 (x19.length : Int) ∧ ρ 12 = .int .i64 x28 ∧ ρ 17 = .slice a61 (x1.Members).length c62 ∧ ρ 18 = .int .i64 ((x1.Members).length : Int) ∧ ρ 19 = .int .i64 x68 ∧ St ok (bz w0) w [vl (tSlice t_api_Member) x1.Members (.slice a61 (x1.Members).length c62), vl t_api_View x1 (.agg cs3.toArray)] [own (tInt .i64) 3 (.slice a65 n67 c66) x64, own (tInt .u64) 57 (.slice a20 n21 c22) x19, own (tSlice (tInt .i64)) 33 (.slice a25 n27 c26) x24, blk g6 26 cs3]) ⟨none, 0, 0, h23_1, h23_3, rfl, rfl, h23_10, h23_11, h23_12, rfl, rfl, rfl, (hs.mask [true, true, true, true]).pick [0, 2]⟩ ?_
    intro s ρ w os69 hI hf hbbs69
    obtain ⟨x64, x68⟩ := s
    obtain ⟨a65, c66, n67, h63_1, h63_3, h63_5, h63_6, h63_10, h63_11, h63_12, h63_17, h63_18, h63_19, hs⟩ := hI
    unfold quorum_Minimal.l1 at hf
    refine W.seqK fun K70 hK70 => ?_
    refine W.region ?_
    refine WL.bin (v := .bool (decide (x68 < ((x1.Members).length : Int)))) h63_19 h63_18 (ib_lss _ _ _) ?_
    refine WL.nil ?_
    refine hK70 _ _ ?_
    refine W.seqK fun K71 hK71 => ?_
    rcases iteE hf with ⟨hc72, hf⟩ | ⟨hc72, hf⟩
    · refine W.cond_true (bool_tr rfl hc72) ?_
      refine W.skip ?_
      refine hK71 _ _ ?_
      refine W.seqK fun K73 hK73 => ?_
      have Jk79 : ∀ (x75 : List Int) (a76 : Option Addr) (c77 : Nat) (n78 : Nat) (ρ : Env) (w : World), ρ 1 = .pointer (some ⟨g6, 0, none⟩) → ρ 3 = .slice a25 n27 c26 → ρ 5 = .int .u64 x42 → ρ 6 = .slice a76 n78 c77 → ρ 10 = .slice a20 n21 c22 → ρ 11 = .int .i64 (x19.length : Int) → ρ 12 = .int .i64 x28 → ρ 17 = .slice a61 (x1.Members).length c62 → ρ 18 = .int .i64 ((x1.Members).length : Int) → ρ 19 = .int .i64 x68 → St ok (bz w0) w [vl (tSlice t_api_Member) x1.Members (.slice a61 (x1.Members).length c62), vl t_api_View x1 (.agg cs3.toArray)] [own (tInt .i64) 3 (.slice a76 n78 c77) x75, own (tInt .u64) 57 (.slice a20 n21 c22) x19, own (tSlice (tInt .i64)) 33 (.slice a25 n27 c26) x24, blk g6 26 cs3] → quorum_Minimal.j4 x68 x75 = some os69 → K73 ρ w := by
        intro x75 a76 c77 n78 ρ w h74_1 h74_3 h74_5 h74_6 h74_10 h74_11 h74_12 h74_17 h74_18 h74_19 hs hf
        refine hK73 _ _ ?_
        unfold quorum_Minimal.j4 at hf
        refine W.region ?_
        obtain ⟨x80, ex80, hf⟩ := letE hf
        refine WL.bin (v := .int .i64 x80) h74_19 rfl (ib_as ex80 (ib_add _ _ _)) ?_
        refine WL.move (v := .int .i64 x80) rfl ?_
        refine WL.nil ?_
        exact ⟨_, (Option.some.inj hf).symm, a76, c77, n78, h74_1, h74_3, h74_5, h74_6, h74_10, h74_11, h74_12, h74_17, h74_18, rfl, (hs.mask [true, true, true, true]).pick [0, 1]⟩
      refine W.block ?_
      refine W.seqK fun K81 hK81 => ?_
      refine W.region ?_
      refine WL.move (v := .int .i64 x68) h63_19 ?_
      obtain ⟨x82, hxx82, hf⟩ := bindE hf
      refine WL.indexAddr hs 0 rfl UN24 TI44 h63_17 h63_19 hxx82 (fun ad83 hs => ?_)
      refine WL.loadP hs 0 rfl TI44 (.inl rfl) rfl (fun v84 hs => ?_)
      obtain ⟨cs85, hl86, rfl⟩ := hs.aggv (n := 2) 0 rfl rfl rfl
      refine WL.alloc hs ZV44 (fun g87 w hs => ?_)
      refine WL.assign (v := .int .i64 x68) rfl ?_
      refine WL.storeAll (vs := cs85) hs 0 rfl TI44 rfl rfl rfl hl86 (hs.ones 0 rfl rfl) rfl (fun w hs => ?_)
      refine WL.nil ?_
      refine hK81 _ _ ?_
      refine W.seqK fun K88 hK88 => ?_
      refine W.region ?_
      refine WL.move (v := .int .u64 x42) h63_5 ?_
      refine WL.move (v := .int .i64 x68) rfl ?_
      obtain ⟨hn89, hf⟩ := guardE hf
      refine WL.shr rfl rfl hn89 ?_
      obtain ⟨x90, ex90, hf⟩ := letE hf
      refine WL.bin (v := .int .u64 x90) rfl rfl (ib_as ex90 (ib_and _ _ _)) ?_
      refine WL.bin (v := .bool (x90 == 1)) rfl rfl (ib_eql _ _ _) ?_
      refine WL.nil ?_
      refine hK88 _ _ ?_
      rcases iteE hf with ⟨hc91, hf⟩ | ⟨hc91, hf⟩
      · refine W.cond_true (bool_tr rfl hc91) ?_
        refine W.region ?_
        refine WL.move (v := .slice a65 n67 c66) h63_6 ?_
        refine WL.fieldAddr (m := 0) rfl FA44_0 rfl ?_
        refine WL.loadF (z := x82.Server) F_api_Member_Server hs 0 rfl 0 rfl rfl TI3 (.inr rfl) rfl rfl (fun v92 hs => ?_)
        obtain rfl := hs.int 0 rfl
        refine WL.buildSlice (n := 1) (vs := [(0, .int .i64 x82.Server)]) (cs := [.int .i64 x82.Server]) hs ⟨⟨rfl, rfl⟩, trivial⟩ (bls PS33 (by decide) rfl) (fun g93 w hs => ?_)
        obtain ⟨x94, hxx94, hf⟩ := bindE hf
        obtain ⟨hbx94, hex94⟩ := appE hxx94
        refine WL.append (ys := [x82.Server]) (zs := x94) hs 2 rfl 0 rfl UN33 EI3 rfl rfl (fun ok hA => (Cells.one (T := tInt .i64) rfl)) hbx94 (by omega) hex94 (fun v95 w hs => ?_)
        obtain ⟨a96, n98, c97, rfl⟩ := hs.ownv3 2 rfl
        refine WL.assign (v := .slice a96 n98 c97) rfl ?_
        refine WL.nil ?_
        exact Jk79 x94 a96 c97 n98 _ _ h63_1 h63_3 h63_5 rfl h63_10 h63_11 h63_12 h63_17 h63_18 h63_19 ((hs.mask [false, false, true, true, true, true]).pick [3, 4]) hf
      · refine W.cond_false (bool_tr rfl hc91) ?_
        refine W.skip ?_
        exact Jk79 x64 a65 c66 n67 _ _ h63_1 h63_3 h63_5 h63_6 h63_10 h63_11 h63_12 h63_17 h63_18 h63_19 ((hs.mask [false, true, true, true, true]).pick [2, 3]) hf
    · refine W.cond_false (bool_tr rfl hc72) ?_
      refine W.exit ?_
      have hr := Option.some.inj hf; subst hr
      have hr := hbbs69 _ rfl; subst hr
      have hf := hfs69
      exact Jk52 x64 a65 c66 n67 _ _ h63_1 h63_3 h63_6 h63_10 h63_11 h63_12 ((hs.mask [true, true, true, true]).pick [1]) hf
  · refine W.cond_false (bool_tr rfl hc32) ?_
    refine W.exit ?_
    have hr := Option.some.inj hf; subst hr
    have hr := hbbs29 _ rfl; subst hr
    have hf := hfs29
    exact Jk14 x24 a25 c26 n27 _ _ h23_3 ((hs.mask [false, true]).pick []) hf
theorem quorum_Minimal.callc {ok : Nat → Prop} {w0 : World} {x1 : api_View} {v2 : Value} {r : List (List Int)} (hf : quorum_Minimal x1 = some r) (i0 : (vl t_api_View x1 v2).holds ok w0) :
    Calls Try.prog 20 #[v2] w0 fun e w' => ∃ v, e = .returned v ∧ ∃ y : (Option Addr × Nat), v = .slice y.1 r.length y.2 ∧ St ok (bz w0) w' [vl (tSlice (tSlice (tInt .i64))) r (.slice y.1 r.length y.2)] [] := by
  refine (quorum_Minimal.calls (ok := ok) (w0 := w0) (x1 := x1) hf i0).mono ?_
  rintro e w' ⟨v, rfl, ⟨a101, n102, c103⟩, rfl, hs⟩
  obtain rfl := hs.ownLen 0 rfl
  have hs := hs.freezeOwn 0 rfl
  exact ⟨_, rfl, (a101, c103), rfl, hs.pick [0]⟩
/-! math/bits.OnesCount32: function 66 -/
theorem bits_OnesCount32.calls {ok : Nat → Prop} {w0 : World} {x1 : Int}  {r : Int} (hf : bits_OnesCount32 x1 = some r)  :
    Calls Try.prog 66 #[.int .u32 x1] w0 fun e w' => ∃ v, e = .returned v ∧ ∃ y : Unit, v = .int .i64 r ∧ St ok (bz w0) w' [] [] := by
  unfold bits_OnesCount32 at hf
  refine calls_of_W (fn := Try.f66) (N := 21) Try.func66 rfl Try.ntmps66 rfl ?_
  have hs : St ok (bz w0) w0 [] [] := St.init All.nil
  refine W.seqK fun K2 hK2 => ?_
  refine W.region ?_
  refine WL.assign (v := .int .i64 0) rfl ?_
  refine WL.nil ?_
  refine hK2 _ _ ?_
  refine W.seqK fun K3 hK3 => ?_
  obtain ⟨x5, hxx5, hf⟩ := bindE hf
  obtain ⟨x7, ex7, hf⟩ := letE hf
  obtain ⟨x8, hxx8, hf⟩ := bindE hf
  obtain ⟨x9, ex9, hf⟩ := letE hf
  obtain ⟨x11, ex11, hf⟩ := letE hf
  obtain ⟨x12, hxx12, hf⟩ := bindE hf
  obtain ⟨x13, ex13, hf⟩ := letE hf
  obtain ⟨x14, ex14, hf⟩ := letE hf
  obtain ⟨x15, hxx15, hf⟩ := bindE hf
  obtain ⟨x16, ex16, hf⟩ := letE hf
  refine W.any (by kernel_rfl) 18 1 [true, true, true, true, true, true, true, true, true, true, true, true, true, true, true, true, true, true, false] rfl rfl (poAt [pv (.int .u32 x1), pv (.int .u32 (shrI .u32 x1 24)), pv (.int .u8 (x5.toNat : Int)), pv (.int .u32 x1), pv (.int .u32 (shrI .u32 x1 16)), pv (.int .u32 x7), pv (.int .u8 (x8.toNat : Int)), pv (.int .u8 x9), pv (.int .u32 x1), pv (.int .u32 (shrI .u32 x1 8)), pv (.int .u32 x11), pv (.int .u8 (x12.toNat : Int)), pv (.int .u8 x13), pv (.int .u32 x1), pv (.int .u32 x14), pv (.int .u8 (x15.toNat : Int)), pv (.int .u8 x16), pv (.int .i64 (IntKind.i64.wrap x16))]) (Λ := []) hs (by kernel_rfl) (by kernel_rfl) (by kernel_rfl) ⟨⟨⟨⟨⟨⟨⟨⟨⟨⟨⟨⟨⟨⟨⟨⟨⟨⟨trivial, ?_⟩, ?_⟩, ?_⟩, ?_⟩, ?_⟩, ?_⟩, ?_⟩, ?_⟩, ?_⟩, ?_⟩, ?_⟩, ?_⟩, ?_⟩, ?_⟩, ?_⟩, ?_⟩, ?_⟩, ?_⟩ ?_
  · intro ρ w Γx Λx hs hu hp
    refine WL.move (v := .int .u32 x1) (hu 0 rfl) ?_
    exact WL.nil ⟨rfl, _, rfl, rfl, hs.cutG 0 0⟩
  · intro ρ w Γx Λx hs hu hp
    have e17 : ρ 3 = .int .u32 x1 := (hp 0 rfl).1
    refine WL.shr e17 rfl (by decide) ?_
    exact WL.nil ⟨rfl, _, rfl, rfl, hs.cutG 0 0⟩
  · intro ρ w Γx Λx hs hu hp
    have e18 : ρ 4 = .int .u32 (shrI .u32 x1 24) := (hp 1 rfl).1
    refine WL.indexS UN9 rfl e18 hxx5 ?_
    exact WL.nil ⟨rfl, _, rfl, rfl, hs.cutG 0 0⟩
  · intro ρ w Γx Λx hs hu hp
    refine WL.move (v := .int .u32 x1) (hu 0 rfl) ?_
    exact WL.nil ⟨rfl, _, rfl, rfl, hs.cutG 0 0⟩
  · intro ρ w Γx Λx hs hu hp
    have e19 : ρ 6 = .int .u32 x1 := (hp 3 rfl).1
    refine WL.shr e19 rfl (by decide) ?_
    exact WL.nil ⟨rfl, _, rfl, rfl, hs.cutG 0 0⟩
  · intro ρ w Γx Λx hs hu hp
    have e20 : ρ 7 = .int .u32 (shrI .u32 x1 16) := (hp 4 rfl).1
    refine WL.bin (v := .int .u32 x7) e20 rfl (ib_as ex7 (ib_and _ _ _)) ?_
    exact WL.nil ⟨rfl, _, rfl, rfl, hs.cutG 0 0⟩
  · intro ρ w Γx Λx hs hu hp
    have e21 : ρ 8 = .int .u32 x7 := (hp 5 rfl).1
    refine WL.indexS UN9 rfl e21 hxx8 ?_
    exact WL.nil ⟨rfl, _, rfl, rfl, hs.cutG 0 0⟩
  · intro ρ w Γx Λx hs hu hp
    have e22 : ρ 5 = .int .u8 (x5.toNat : Int) := (hp 2 rfl).1
    have e23 : ρ 9 = .int .u8 (x8.toNat : Int) := (hp 6 rfl).1
    refine WL.bin (v := .int .u8 x9) e22 e23 (ib_as ex9 (ib_add _ _ _)) ?_
    exact WL.nil ⟨rfl, _, rfl, rfl, hs.cutG 0 0⟩
  · intro ρ w Γx Λx hs hu hp
    refine WL.move (v := .int .u32 x1) (hu 0 rfl) ?_
    exact WL.nil ⟨rfl, _, rfl, rfl, hs.cutG 0 0⟩
  · intro ρ w Γx Λx hs hu hp
    have e24 : ρ 11 = .int .u32 x1 := (hp 8 rfl).1
    refine WL.shr e24 rfl (by decide) ?_
    exact WL.nil ⟨rfl, _, rfl, rfl, hs.cutG 0 0⟩
  · intro ρ w Γx Λx hs hu hp
    have e25 : ρ 12 = .int .u32 (shrI .u32 x1 8) := (hp 9 rfl).1
    refine WL.bin (v := .int .u32 x11) e25 rfl (ib_as ex11 (ib_and _ _ _)) ?_
    exact WL.nil ⟨rfl, _, rfl, rfl, hs.cutG 0 0⟩
  · intro ρ w Γx Λx hs hu hp
    have e26 : ρ 13 = .int .u32 x11 := (hp 10 rfl).1
    refine WL.indexS UN9 rfl e26 hxx12 ?_
    exact WL.nil ⟨rfl, _, rfl, rfl, hs.cutG 0 0⟩
  · intro ρ w Γx Λx hs hu hp
    have e27 : ρ 10 = .int .u8 x9 := (hp 7 rfl).1
    have e28 : ρ 14 = .int .u8 (x12.toNat : Int) := (hp 11 rfl).1
    refine WL.bin (v := .int .u8 x13) e27 e28 (ib_as ex13 (ib_add _ _ _)) ?_
    exact WL.nil ⟨rfl, _, rfl, rfl, hs.cutG 0 0⟩
  · intro ρ w Γx Λx hs hu hp
    refine WL.move (v := .int .u32 x1) (hu 0 rfl) ?_
    exact WL.nil ⟨rfl, _, rfl, rfl, hs.cutG 0 0⟩
  · intro ρ w Γx Λx hs hu hp
    have e29 : ρ 16 = .int .u32 x1 := (hp 13 rfl).1
    refine WL.bin (v := .int .u32 x14) e29 rfl (ib_as ex14 (ib_and _ _ _)) ?_
    exact WL.nil ⟨rfl, _, rfl, rfl, hs.cutG 0 0⟩
  · intro ρ w Γx Λx hs hu hp
    have e30 : ρ 17 = .int .u32 x14 := (hp 14 rfl).1
    refine WL.indexS UN9 rfl e30 hxx15 ?_
    exact WL.nil ⟨rfl, _, rfl, rfl, hs.cutG 0 0⟩
  · intro ρ w Γx Λx hs hu hp
    have e31 : ρ 15 = .int .u8 x13 := (hp 12 rfl).1
    have e32 : ρ 18 = .int .u8 (x15.toNat : Int) := (hp 15 rfl).1
    refine WL.bin (v := .int .u8 x16) e31 e32 (ib_as ex16 (ib_add _ _ _)) ?_
    exact WL.nil ⟨rfl, _, rfl, rfl, hs.cutG 0 0⟩
  · intro ρ w Γx Λx hs hu hp
    have e33 : ρ 19 = .int .u8 x16 := (hp 16 rfl).1
    refine WL.convI UN5 UN3 e33 ?_
    exact WL.nil ⟨rfl, _, rfl, rfl, hs.cutG 0 0⟩
  · intro ρ w hs hu34 hp
    obtain ⟨⟨⟨⟨⟨⟨⟨⟨⟨⟨⟨⟨⟨⟨⟨⟨⟨⟨_, hp0_⟩, hp1_⟩, hp2_⟩, hp3_⟩, hp4_⟩, hp5_⟩, hp6_⟩, hp7_⟩, hp8_⟩, hp9_⟩, hp10_⟩, hp11_⟩, hp12_⟩, hp13_⟩, hp14_⟩, hp15_⟩, hp16_⟩, hp17_⟩ := hp
    have hs : St ok (bz w0) w [] [] := hs
    have e35 : ρ 20 = .int .i64 (IntKind.i64.wrap x16) := hp17_
    have e36 : ρ 19 = .int .u8 x16 := hp16_
    have e37 : ρ 18 = .int .u8 (x15.toNat : Int) := hp15_
    have e38 : ρ 17 = .int .u32 x14 := hp14_
    have e39 : ρ 16 = .int .u32 x1 := hp13_
    have e40 : ρ 15 = .int .u8 x13 := hp12_
    have e41 : ρ 14 = .int .u8 (x12.toNat : Int) := hp11_
    have e42 : ρ 13 = .int .u32 x11 := hp10_
    have e43 : ρ 12 = .int .u32 (shrI .u32 x1 8) := hp9_
    have e44 : ρ 11 = .int .u32 x1 := hp8_
    have e45 : ρ 10 = .int .u8 x9 := hp7_
    have e46 : ρ 9 = .int .u8 (x8.toNat : Int) := hp6_
    have e47 : ρ 8 = .int .u32 x7 := hp5_
    have e48 : ρ 7 = .int .u32 (shrI .u32 x1 16) := hp4_
    have e49 : ρ 6 = .int .u32 x1 := hp3_
    have e50 : ρ 5 = .int .u8 (x5.toNat : Int) := hp2_
    have e51 : ρ 4 = .int .u32 (shrI .u32 x1 24) := hp1_
    have e52 : ρ 3 = .int .u32 x1 := hp0_
    refine WA.step [18] (by kernel_rfl) (by simp) ⟨?_, trivial⟩
    refine WL.assign (v := .int .i64 (IntKind.i64.wrap x16)) e35 ?_
    refine WL.nil ⟨rfl, _, rfl, ?_⟩
    refine WA.done (by kernel_rfl) ?_
    refine hK3 _ _ ?_
    refine W.ret ?_
    have hr := Option.some.inj hf; subst hr
    exact ⟨_, resOk_one rfl rfl, (), rfl, (hs.mask []).pick []⟩
/-! math/bits.OnesCount64: function 67 -/
theorem bits_OnesCount64.calls {ok : Nat → Prop} {w0 : World} {x1 : Int}  {r : Int} (hf : bits_OnesCount64 x1 = some r)  :
    Calls Try.prog 67 #[.int .u64 x1] w0 fun e w' => ∃ v, e = .returned v ∧ ∃ y : Unit, v = .int .i64 r ∧ St ok (bz w0) w' [] [] := by
  unfold bits_OnesCount64 at hf
  refine calls_of_W (fn := Try.f67) (N := 35) Try.func67 rfl Try.ntmps67 rfl ?_
  have hs : St ok (bz w0) w0 [] [] := St.init All.nil
  refine W.seqK fun K2 hK2 => ?_
  refine W.region ?_
  refine WL.assign (v := .int .i64 0) rfl ?_
  refine WL.nil ?_
  refine hK2 _ _ ?_
  refine W.seqK fun K3 hK3 => ?_
  refine W.region ?_
  refine WL.move (v := .int .u64 x1) rfl ?_
  refine WL.shr rfl rfl (by decide) ?_
  obtain ⟨x5, ex5, hf⟩ := letE hf
  refine WL.bin (v := .int .u64 x5) rfl rfl (ib_as ex5 (ib_and _ _ _)) ?_
  refine WL.move (v := .int .u64 x1) rfl ?_
  obtain ⟨x6, ex6, hf⟩ := letE hf
  refine WL.bin (v := .int .u64 x6) rfl rfl (ib_as ex6 (ib_and _ _ _)) ?_
  obtain ⟨x7, ex7, hf⟩ := letE hf
  refine WL.bin (v := .int .u64 x7) rfl rfl (ib_as ex7 (ib_add _ _ _)) ?_
  refine WL.assign (v := .int .u64 x7) rfl ?_
  refine WL.nil ?_
  refine hK3 _ _ ?_
  refine W.seqK fun K8 hK8 => ?_
  refine W.region ?_
  refine WL.move (v := .int .u64 x7) rfl ?_
  refine WL.shr rfl rfl (by decide) ?_
  obtain ⟨x10, ex10, hf⟩ := letE hf
  refine WL.bin (v := .int .u64 x10) rfl rfl (ib_as ex10 (ib_and _ _ _)) ?_
  refine WL.move (v := .int .u64 x7) rfl ?_
  obtain ⟨x11, ex11, hf⟩ := letE hf
  refine WL.bin (v := .int .u64 x11) rfl rfl (ib_as ex11 (ib_and _ _ _)) ?_
  obtain ⟨x12, ex12, hf⟩ := letE hf
  refine WL.bin (v := .int .u64 x12) rfl rfl (ib_as ex12 (ib_add _ _ _)) ?_
  refine WL.assign (v := .int .u64 x12) rfl ?_
  refine WL.nil ?_
  refine hK8 _ _ ?_
  refine W.seqK fun K13 hK13 => ?_
  refine W.region ?_
  refine WL.move (v := .int .u64 x12) rfl ?_
  refine WL.shr rfl rfl (by decide) ?_
  refine WL.move (v := .int .u64 x12) rfl ?_
  obtain ⟨x15, ex15, hf⟩ := letE hf
  refine WL.bin (v := .int .u64 x15) rfl rfl (ib_as ex15 (ib_add _ _ _)) ?_
  obtain ⟨x16, ex16, hf⟩ := letE hf
  refine WL.bin (v := .int .u64 x16) rfl rfl (ib_as ex16 (ib_and _ _ _)) ?_
  refine WL.assign (v := .int .u64 x16) rfl ?_
  refine WL.nil ?_
  refine hK13 _ _ ?_
  refine W.seqK fun K17 hK17 => ?_
  refine W.region ?_
  refine WL.move (v := .int .u64 x16) rfl ?_
  refine WL.move (v := .int .u64 x16) rfl ?_
  refine WL.shr rfl rfl (by decide) ?_
  obtain ⟨x19, ex19, hf⟩ := letE hf
  refine WL.bin (v := .int .u64 x19) rfl rfl (ib_as ex19 (ib_add _ _ _)) ?_
  refine WL.assign (v := .int .u64 x19) rfl ?_
  refine WL.nil ?_
  refine hK17 _ _ ?_
  refine W.seqK fun K20 hK20 => ?_
  refine W.region ?_
  refine WL.move (v := .int .u64 x19) rfl ?_
  refine WL.move (v := .int .u64 x19) rfl ?_
  refine WL.shr rfl rfl (by decide) ?_
  obtain ⟨x22, ex22, hf⟩ := letE hf
  refine WL.bin (v := .int .u64 x22) rfl rfl (ib_as ex22 (ib_add _ _ _)) ?_
  refine WL.assign (v := .int .u64 x22) rfl ?_
  refine WL.nil ?_
  refine hK20 _ _ ?_
  refine W.seqK fun K23 hK23 => ?_
  refine W.region ?_
  refine WL.move (v := .int .u64 x22) rfl ?_
  refine WL.move (v := .int .u64 x22) rfl ?_
  refine WL.shr rfl rfl (by decide) ?_
  obtain ⟨x25, ex25, hf⟩ := letE hf
  refine WL.bin (v := .int .u64 x25) rfl rfl (ib_as ex25 (ib_add _ _ _)) ?_
  refine WL.assign (v := .int .u64 x25) rfl ?_
  refine WL.nil ?_
  refine hK23 _ _ ?_
  refine W.seqK fun K26 hK26 => ?_
  refine W.region ?_
  refine WL.move (v := .int .u64 x25) rfl ?_
  refine WL.convI UN89 UN3 rfl ?_
  obtain ⟨x27, ex27, hf⟩ := letE hf
  refine WL.bin (v := .int .i64 x27) rfl rfl (ib_as ex27 (ib_and _ _ _)) ?_
  refine WL.assign (v := .int .i64 x27) rfl ?_
  refine WL.nil ?_
  refine hK26 _ _ ?_
  refine W.ret ?_
  have hr := Option.some.inj hf; subst hr
  exact ⟨_, resOk_one rfl rfl, (), rfl, (hs.mask []).pick []⟩
/-! math/bits.OnesCount: function 53 -/
theorem bits_OnesCount.calls {ok : Nat → Prop} {w0 : World} {x1 : Int}  {r : Int} (hf : bits_OnesCount x1 = some r)  :
    Calls Try.prog 53 #[.int .u64 x1] w0 fun e w' => ∃ v, e = .returned v ∧ ∃ y : Unit, v = .int .i64 r ∧ St ok (bz w0) w' [] [] := by
  unfold bits_OnesCount at hf
  refine calls_of_W (fn := Try.f53) (N := 8) Try.func53 rfl Try.ntmps53 rfl ?_
  have hs : St ok (bz w0) w0 [] [] := St.init All.nil
  refine W.seqK fun K2 hK2 => ?_
  refine W.region ?_
  refine WL.assign (v := .int .i64 0) rfl ?_
  refine WL.nil ?_
  refine hK2 _ _ ?_
  refine W.seqK fun K3 hK3 => ?_
  refine W.cond_false rfl ?_
  refine W.skip ?_
  refine hK3 _ _ ?_
  refine W.seqK fun K4 hK4 => ?_
  refine W.region ?_
  refine WL.move (v := .int .u64 x1) rfl ?_
  obtain ⟨x5, hxx5, hf⟩ := bindE hf
  refine WL.call (vs := [.int .u64 x1]) hs FN67 ⟨rfl, trivial⟩ (fun ok hA => bits_OnesCount64.calls (x1 := x1) hxx5) ?_
  rintro _ w hs
  refine WL.assign (v := .int .i64 x5) rfl ?_
  refine WL.nil ?_
  refine hK4 _ _ ?_
  refine W.ret ?_
  have hr := Option.some.inj hf; subst hr
  exact ⟨_, resOk_one rfl rfl, (), rfl, (hs.mask []).pick []⟩
/-! (elasticstore/quorum.set).size: function 42 -/
theorem quorum_set_size.calls {ok : Nat → Prop} {w0 : World} {x1 : Int}  {r : Int} (hf : quorum_set_size x1 = some r)  :
    Calls Try.prog 42 #[.int .u64 x1] w0 fun e w' => ∃ v, e = .returned v ∧ ∃ y : Unit, v = .int .i64 r ∧ St ok (bz w0) w' [] [] := by
  unfold quorum_set_size at hf
  refine calls_of_W (fn := Try.f42) (N := 5) Try.func42 rfl Try.ntmps42 rfl ?_
  have hs : St ok (bz w0) w0 [] [] := St.init All.nil
  refine W.seqK fun K2 hK2 => ?_
  refine W.region ?_
  refine WL.assign (v := .int .i64 0) rfl ?_
  refine WL.nil ?_
  refine hK2 _ _ ?_
  refine W.seqK fun K3 hK3 => ?_
  refine W.region ?_
  refine WL.move (v := .int .u64 x1) rfl ?_
  obtain ⟨x4, hxx4, hf⟩ := bindE hf
  refine WL.call (vs := [.int .u64 x1]) hs FN53 ⟨rfl, trivial⟩ (fun ok hA => bits_OnesCount.calls (x1 := x1) hxx4) ?_
  rintro _ w hs
  refine WL.assign (v := .int .i64 x4) rfl ?_
  refine WL.nil ?_
  refine hK3 _ _ ?_
  refine W.ret ?_
  have hr := Option.some.inj hf; subst hr
  exact ⟨_, resOk_one rfl rfl, (), rfl, (hs.mask []).pick []⟩
/-! elasticstore/quorum.Overlap: function 25 -/
theorem quorum_Overlap.calls {ok : Nat → Prop} {w0 : World} {x1 : api_View} {v2 : Value} {r : Int} (hf : quorum_Overlap x1 = some r) (i0 : (vl t_api_View x1 v2).holds ok w0) :
    Calls Try.prog 25 #[v2] w0 fun e w' => ∃ v, e = .returned v ∧ ∃ y : Unit, v = .int .i64 r ∧ St ok (bz w0) w' [] [] := by
  unfold quorum_Overlap at hf
  refine calls_of_W (fn := Try.f25) (N := 48) Try.func25 rfl Try.ntmps25 rfl ?_
  have hs : St ok (bz w0) w0 [vl t_api_View x1 v2] [] := St.init (All.cons i0 All.nil)
  clear i0
  obtain ⟨cs3, hl4, rfl⟩ := hs.aggv (n := 4) 0 rfl rfl rfl
  refine W.seqK fun K5 hK5 => ?_
  refine W.region ?_
  refine WL.box (vs := cs3) hs rfl rfl (fun g6 w hs => ?_)
  refine WL.assign (v := .int .i64 0) rfl ?_
  refine WL.nil ?_
  refine hK5 _ _ ?_
  refine W.seqK fun K7 hK7 => ?_
  refine W.region ?_
  refine WL.loadAll hs 0 rfl TI26 rfl hl4 ?_
  obtain ⟨x8, hxx8, hf⟩ := bindE hf
  refine WL.call (vs := [.agg cs3.toArray]) hs FN35 ⟨rfl, trivial⟩ (fun ok hA => quorum_minimal.calls (x1 := x1) hxx8 (hA.get 0 rfl)) ?_
  rintro ⟨a9, n10, c11⟩ w hs
  refine WL.assign (v := .slice a9 n10 c11) rfl ?_
  refine WL.nil ?_
  refine hK7 _ _ ?_
  refine W.seqK fun K12 hK12 => ?_
  refine W.region ?_
  refine WL.assign (v := .int .i64 0) rfl ?_
  refine WL.nil ?_
  refine hK12 _ _ ?_
  refine W.seqK fun K13 hK13 => ?_
  have Jk16 : ∀ (x15 : Int) (ρ : Env) (w : World), ρ 4 = .int .i64 x15 → St ok (bz w0) w [] [] → quorum_Overlap.j1 x15 = some r → K13 ρ w := by
    intro x15 ρ w h14_4 hs hf
    refine hK13 _ _ ?_
    unfold quorum_Overlap.j1 at hf
    refine W.seqK fun K17 hK17 => ?_
    refine W.region ?_
    refine WL.move (v := .int .i64 x15) h14_4 ?_
    refine WL.assign (v := .int .i64 x15) rfl ?_
    refine WL.nil ?_
    refine hK17 _ _ ?_
    refine W.ret ?_
    have hr := Option.some.inj hf; subst hr
    exact ⟨_, resOk_one rfl rfl, (), rfl, (hs.mask []).pick []⟩
  refine W.seqK fun K18 hK18 => ?_
  refine W.region ?_
  refine WL.move (v := .slice a9 n10 c11) rfl ?_
  refine WL.len (v := .slice a9 n10 c11) rfl (len_own hs 0 rfl UN54) ?_
  refine WL.move (v := .int .i64 0) rfl ?_
  refine WL.nil ?_
  refine hK18 _ _ ?_
  refine W.block ?_
  obtain rfl := hs.ownLen 0 rfl
  have hs := hs.freezeOwn 0 rfl
  obtain ⟨bs98, hbs98, hfs98⟩ := bindE hf
  refine W.loop hbs98 (fun s ρ w => match s with | (x96, x97) => ρ 3 = .slice a9 x8.length c11 ∧ ρ 4 = .int .i64 x96 ∧ ρ 12 = .slice a9 x8.length c11 ∧ ρ 13 = .int .i64 (x8.length : Int) ∧ ρ 14 = .int .i64 x97 ∧ St ok (bz w0) w [vl (tSlice (tInt .u64)) x8 (.slice a9 x8.length c11)] []) ⟨rfl, rfl, rfl, rfl, rfl, (hs.mask []).pick [0]⟩ ?_
  intro s ρ w os98 hI hf hbbs98
  obtain ⟨x96, x97⟩ := s
  obtain ⟨h95_3, h95_4, h95_12, h95_13, h95_14, hs⟩ := hI
  unfold quorum_Overlap.l2 at hf
  refine W.seqK fun K99 hK99 => ?_
  refine W.region ?_
  refine WL.bin (v := .bool (decide (x97 < (x8.length : Int)))) h95_14 h95_13 (ib_lss _ _ _) ?_
  refine WL.nil ?_
  refine hK99 _ _ ?_
  refine W.seqK fun K100 hK100 => ?_
  rcases iteE hf with ⟨hc101, hf⟩ | ⟨hc101, hf⟩
  · refine W.cond_true (bool_tr rfl hc101) ?_
    refine W.skip ?_
    refine hK100 _ _ ?_
    refine W.seqK fun K102 hK102 => ?_
    have Jk105 : ∀ (x104 : Int) (ρ : Env) (w : World), ρ 3 = .slice a9 x8.length c11 → ρ 4 = .int .i64 x104 → ρ 12 = .slice a9 x8.length c11 → ρ 13 = .int .i64 (x8.length : Int) → ρ 14 = .int .i64 x97 → St ok (bz w0) w [vl (tSlice (tInt .u64)) x8 (.slice a9 x8.length c11)] [] → quorum_Overlap.j2 x97 x104 = some os98 → K102 ρ w := by
      intro x104 ρ w h103_3 h103_4 h103_12 h103_13 h103_14 hs hf
      refine hK102 _ _ ?_
      unfold quorum_Overlap.j2 at hf
      refine W.region ?_
      obtain ⟨x106, ex106, hf⟩ := letE hf
      refine WL.bin (v := .int .i64 x106) h103_14 rfl (ib_as ex106 (ib_add _ _ _)) ?_
      refine WL.move (v := .int .i64 x106) rfl ?_
      refine WL.nil ?_
      exact ⟨_, (Option.some.inj hf).symm, h103_3, h103_4, h103_12, h103_13, rfl, (hs.mask []).pick [0]⟩
    refine W.block ?_
    refine W.seqK fun K107 hK107 => ?_
    refine W.region ?_
    refine WL.move (v := .int .i64 x97) h95_14 ?_
    obtain ⟨x108, hxx108, hf⟩ := bindE hf
    refine WL.indexAddr hs 0 rfl UN54 TI57 h95_12 h95_14 hxx108 (fun ad109 hs => ?_)
    refine WL.loadP hs 0 rfl TI57 (.inr rfl) rfl (fun v110 hs => ?_)
    obtain rfl := hs.int 0 rfl
    refine WL.assign (v := .int .i64 x97) rfl ?_
    refine WL.assign (v := .int .u64 x108) rfl ?_
    refine WL.nil ?_
    refine hK107 _ _ ?_
    refine W.seqK fun K111 hK111 => ?_
    refine W.region ?_
    refine WL.move (v := .slice a9 x8.length c11) h95_3 ?_
    refine WL.move (v := .int .i64 x97) rfl ?_
    obtain ⟨x112, ex112, hf⟩ := letE hf
    refine WL.bin (v := .int .i64 x112) rfl rfl (ib_as ex112 (ib_add _ _ _)) ?_
    obtain ⟨x113, hxx113, hf⟩ := bindE hf
    refine WL.slice_h hs 2 rfl UN54 TI57 rfl rfl hxx113 (fun a114 c115 hs => ?_)
    refine WL.len (v := .slice a114 x113.length c115) rfl (len_slice UN54) ?_
    refine WL.move (v := .int .i64 0) rfl ?_
    refine WL.nil ?_
    refine hK111 _ _ ?_
    refine W.block ?_
    obtain ⟨bs119, hbs119, hfs119⟩ := bindE hf
    refine W.loop hbs119 (fun s ρ w => match s with | (x117, x118) => ρ 3 = .slice a9 x8.length c11 ∧ ρ 4 = .int .i64 x117 ∧ ρ 5 = .int .i64 x97 ∧ ρ 6 = .int .u64 x108 ∧ ρ 12 = .slice a9 x8.length c11 ∧ ρ 13 = .int .i64 (x8.length : Int) ∧ ρ 14 = .int .i64 x97 ∧ ρ 22 = .slice a114 x113.length c115 ∧ ρ 23 = .int .i64 (x113.length : Int) ∧ ρ 24 = .int .i64 x118 ∧ St ok (bz w0) w [vl (tSlice (tInt .u64)) x8 (.slice a9 x8.length c11), vl (tSlice (tInt .u64)) x113 (.slice a114 x113.length c115)] []) ⟨h95_3, h95_4, rfl, rfl, h95_12, h95_13, h95_14, rfl, rfl, rfl, (hs.mask []).pick [3, 0]⟩ ?_
    intro s ρ w os119 hI hf hbbs119
    obtain ⟨x117, x118⟩ := s
    obtain ⟨h116_3, h116_4, h116_5, h116_6, h116_12, h116_13, h116_14, h116_22, h116_23, h116_24, hs⟩ := hI
    unfold quorum_Overlap.l1 at hf
    refine W.seqK fun K120 hK120 => ?_
    refine W.region ?_
    refine WL.bin (v := .bool (decide (x118 < (x113.length : Int)))) h116_24 h116_23 (ib_lss _ _ _) ?_
    refine WL.nil ?_
    refine hK120 _ _ ?_
    refine W.seqK fun K121 hK121 => ?_
    rcases iteE hf with ⟨hc122, hf⟩ | ⟨hc122, hf⟩
    · refine W.cond_true (bool_tr rfl hc122) ?_
      refine W.skip ?_
      refine hK121 _ _ ?_
      refine W.seqK fun K123 hK123 => ?_
      have Jk126 : ∀ (x125 : Int) (ρ : Env) (w : World), ρ 3 = .slice a9 x8.length c11 → ρ 4 = .int .i64 x125 → ρ 5 = .int .i64 x97 → ρ 6 = .int .u64 x108 → ρ 12 = .slice a9 x8.length c11 → ρ 13 = .int .i64 (x8.length : Int) → ρ 14 = .int .i64 x97 → ρ 22 = .slice a114 x113.length c115 → ρ 23 = .int .i64 (x113.length : Int) → ρ 24 = .int .i64 x118 → St ok (bz w0) w [vl (tSlice (tInt .u64)) x8 (.slice a9 x8.length c11), vl (tSlice (tInt .u64)) x113 (.slice a114 x113.length c115)] [] → quorum_Overlap.j3 x118 x125 = some os119 → K123 ρ w := by
        intro x125 ρ w h124_3 h124_4 h124_5 h124_6 h124_12 h124_13 h124_14 h124_22 h124_23 h124_24 hs hf
        refine hK123 _ _ ?_
        unfold quorum_Overlap.j3 at hf
        refine W.region ?_
        obtain ⟨x127, ex127, hf⟩ := letE hf
        refine WL.bin (v := .int .i64 x127) h124_24 rfl (ib_as ex127 (ib_add _ _ _)) ?_
        refine WL.move (v := .int .i64 x127) rfl ?_
        refine WL.nil ?_
        exact ⟨_, (Option.some.inj hf).symm, h124_3, h124_4, h124_5, h124_6, h124_12, h124_13, h124_14, h124_22, h124_23, rfl, (hs.mask []).pick [0, 1]⟩
      refine W.block ?_
      refine W.seqK fun K128 hK128 => ?_
      refine W.region ?_
      refine WL.move (v := .int .i64 x118) h116_24 ?_
      obtain ⟨x129, hxx129, hf⟩ := bindE hf
      refine WL.indexAddr hs 1 rfl UN54 TI57 h116_22 h116_24 hxx129 (fun ad130 hs => ?_)
      refine WL.loadP hs 0 rfl TI57 (.inr rfl) rfl (fun v131 hs => ?_)
      obtain rfl := hs.int 0 rfl
      refine WL.assign (v := .int .i64 x118) rfl ?_
      refine WL.assign (v := .int .u64 x129) rfl ?_
      refine WL.nil ?_
      refine hK128 _ _ ?_
      refine W.seqK fun K132 hK132 => ?_
      refine W.region ?_
      refine WL.move (v := .int .u64 x108) h116_6 ?_
      refine WL.move (v := .int .u64 x129) rfl ?_
      obtain ⟨x133, ex133, hf⟩ := letE hf
      refine WL.bin (v := .int .u64 x133) rfl rfl (ib_as ex133 (ib_and _ _ _)) ?_
      obtain ⟨x134, hxx134, hf⟩ := bindE hf
      refine WL.call (vs := [.int .u64 x133]) hs FN42 ⟨rfl, trivial⟩ (fun ok hA => quorum_set_size.calls (x1 := x133) hxx134) ?_
      rintro _ w hs
      refine WL.assign (v := .int .i64 x134) rfl ?_
      refine WL.nil ?_
      refine hK132 _ _ ?_
      refine W.seqK fun K135 hK135 => ?_
      have Jk138 : ∀ (x137 : Bool) (ρ : Env) (w : World), ρ 3 = .slice a9 x8.length c11 → ρ 4 = .int .i64 x117 → ρ 5 = .int .i64 x97 → ρ 6 = .int .u64 x108 → ρ 9 = .int .i64 x134 → ρ 12 = .slice a9 x8.length c11 → ρ 13 = .int .i64 (x8.length : Int) → ρ 14 = .int .i64 x97 → ρ 22 = .slice a114 x113.length c115 → ρ 23 = .int .i64 (x113.length : Int) → ρ 24 = .int .i64 x118 → ρ 43 = .bool x137 → St ok (bz w0) w [vl (tSlice (tInt .u64)) x8 (.slice a9 x8.length c11), vl (tSlice (tInt .u64)) x113 (.slice a114 x113.length c115)] [] → quorum_Overlap.j4 x117 x118 x134 x137 = some os119 → K135 ρ w := by
        intro x137 ρ w h136_3 h136_4 h136_5 h136_6 h136_9 h136_12 h136_13 h136_14 h136_22 h136_23 h136_24 h136_43 hs hf
        refine hK135 _ _ ?_
        unfold quorum_Overlap.j4 at hf
        rcases iteE hf with ⟨hc139, hf⟩ | ⟨hc139, hf⟩
        · refine W.cond_true (bool_tr h136_43 hc139) ?_
          refine W.region ?_
          refine WL.move (v := .int .i64 x134) h136_9 ?_
          refine WL.assign (v := .int .i64 x134) rfl ?_
          refine WL.nil ?_
          exact Jk126 x134 _ _ h136_3 rfl h136_5 h136_6 h136_12 h136_13 h136_14 h136_22 h136_23 h136_24 ((hs.mask []).pick [0, 1]) hf
        · refine W.cond_false (bool_tr h136_43 hc139) ?_
          refine W.skip ?_
          exact Jk126 x117 _ _ h136_3 h136_4 h136_5 h136_6 h136_12 h136_13 h136_14 h136_22 h136_23 h136_24 ((hs.mask []).pick [0, 1]) hf
      refine W.region ?_
      refine WL.move (v := .int .i64 x97) h116_5 ?_
      refine WL.bin (v := .bool (x97 == 0)) rfl rfl (ib_eql _ _ _) ?_
      refine WL.move (v := .bool (x97 == 0)) rfl ?_
      rcases iteE hf with ⟨hc140, hf⟩ | ⟨hc140, hf⟩
      · refine WL.move (v := .int .i64 x118) rfl ?_ (hg := (wanted_of rfl rfl (bool_tr rfl hc140)).trans rfl)
        refine WL.bin (v := .bool (x118 == 0)) rfl rfl (ib_eql _ _ _) ?_ (hg := (wanted_of rfl rfl (bool_tr rfl hc140)).trans rfl)
        refine WL.pickT (v := .bool (x118 == 0)) (bool_tr rfl hc140) rfl ?_
        refine WL.move (v := .bool (x118 == 0)) rfl ?_
        rcases iteE hf with ⟨hc141, hf⟩ | ⟨hc141, hf⟩
        · refine WL.pass ((wanted_of rfl rfl (bool_tr rfl hc141)).trans rfl) rfl ?_
          refine WL.pass ((wanted_of rfl rfl (bool_tr rfl hc141)).trans rfl) rfl ?_
          refine WL.pass ((wanted_of rfl rfl (bool_tr rfl hc141)).trans rfl) rfl ?_
          refine WL.pickT (v := .bool true) (bool_tr rfl hc141) rfl ?_
          refine WL.nil ?_
          exact Jk138 true _ _ h116_3 h116_4 h116_5 h116_6 rfl h116_12 h116_13 h116_14 h116_22 h116_23 h116_24 rfl ((hs.mask []).pick [2, 3]) hf
        · refine WL.move (v := .int .i64 x134) rfl ?_ (hg := (wanted_of rfl rfl (bool_tr rfl hc141)).trans rfl)
          refine WL.move (v := .int .i64 x117) h116_4 ?_ (hg := (wanted_of rfl rfl (bool_tr rfl hc141)).trans rfl)
          refine WL.bin (v := .bool (decide (x134 < x117))) rfl rfl (ib_lss _ _ _) ?_ (hg := (wanted_of rfl rfl (bool_tr rfl hc141)).trans rfl)
          refine WL.pickF (v := .bool (decide (x134 < x117))) (bool_tr rfl hc141) rfl ?_
          refine WL.nil ?_
          exact Jk138 (decide (x134 < x117)) _ _ h116_3 h116_4 h116_5 h116_6 rfl h116_12 h116_13 h116_14 h116_22 h116_23 h116_24 rfl ((hs.mask []).pick [2, 3]) hf
      · refine WL.pass ((wanted_of rfl rfl (bool_tr rfl hc140)).trans rfl) rfl ?_
        refine WL.pass ((wanted_of rfl rfl (bool_tr rfl hc140)).trans rfl) rfl ?_
        refine WL.pickF (v := .bool false) (bool_tr rfl hc140) rfl ?_
        refine WL.move (v := .bool false) rfl ?_
        refine WL.move (v := .int .i64 x134) rfl ?_ (hg := (wanted_of rfl rfl rfl).trans rfl)
        refine WL.move (v := .int .i64 x117) h116_4 ?_ (hg := (wanted_of rfl rfl rfl).trans rfl)
        refine WL.bin (v := .bool (decide (x134 < x117))) rfl rfl (ib_lss _ _ _) ?_ (hg := (wanted_of rfl rfl rfl).trans rfl)
        refine WL.pickF (v := .bool (decide (x134 < x117))) rfl rfl ?_
        refine WL.nil ?_
        exact Jk138 (decide (x134 < x117)) _ _ h116_3 h116_4 h116_5 h116_6 rfl h116_12 h116_13 h116_14 h116_22 h116_23 h116_24 rfl ((hs.mask []).pick [2, 3]) hf
    · refine W.cond_false (bool_tr rfl hc122) ?_
      refine W.exit ?_
      have hr := Option.some.inj hf; subst hr
      have hr := hbbs119 _ rfl; subst hr
      have hf := hfs119
      exact Jk105 x117 _ _ h116_3 h116_4 h116_12 h116_13 h116_14 ((hs.mask []).pick [0]) hf
  · refine W.cond_false (bool_tr rfl hc101) ?_
    refine W.exit ?_
    have hr := Option.some.inj hf; subst hr
    have hr := hbbs98 _ rfl; subst hr
    have hf := hfs98
    exact Jk16 x96 _ _ h95_4 ((hs.mask []).pick []) hf
end Go.Proofs.Ytodebgfppmcjlaa
