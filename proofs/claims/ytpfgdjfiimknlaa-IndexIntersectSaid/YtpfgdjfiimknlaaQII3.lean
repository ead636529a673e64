/- What the row leans on, as few texts. -/
import Derived.RangeFuncFrom
import Derived.RangeFuncBox
import Derived.RangeFuncLeaves
import Derived.RangeFuncNested
import Derived.RangeFuncBound
import Derived.RangeFuncCalls
import Derived.Shelf.Abstract
import Derived.WalkKit
import Derived.OwnWalkIn
import Derived.TacticsInMore
import Derived.LoopNIn
import Derived.LoopIn
import Derived.BigRegionIn
import Derived.Maps.AppendAt
import Derived.Maps.RangeWalk
import Derived.Sort.OwnSorted
import Derived.Test.YtpfgdjfiimknlaaQII1
import Derived.Test.YtpfgdjfiimknlaaQII2
set_option linter.unusedVariables false
set_option linter.unusedSimpArgs false
set_option maxRecDepth 20000
namespace Go.Proofs.Ytpfgdjfiimknlaa
open Go Go.RowKit Go.Shelf Go.Proofs.YtpfgdjfiimknlaaL
theorem cmp_isNaN_int.callq {w0 : World} {x1 : Int}  {r : Bool} (hf : cmp_isNaN_int x1 = some r)  :
    Calls Try.prog 24 #[.int .i64 x1] w0 fun e w' => ∃ v, e = .returned v ∧ v = .bool r ∧ w' = w0 := by
  unfold cmp_isNaN_int at hf
  refine calls_of_W (fn := Try.f24) (N := 6) Try.func24 rfl Try.ntmps24 rfl ?_
  refine W.seqK fun K2 hK2 => ?_
  refine W.region ?_
  refine WL.assign (v := .bool false) rfl ?_
  refine WL.nil ?_
  refine hK2 _ _ ?_
  refine W.seqK fun K3 hK3 => ?_
  refine W.region ?_
  refine WL.move (v := .int .i64 x1) rfl ?_
  refine WL.move (v := .int .i64 x1) rfl ?_
  refine WL.bin (v := .bool (x1 != x1)) rfl rfl (ib_neq _ _ _) ?_
  refine WL.assign (v := .bool (x1 != x1)) rfl ?_
  refine WL.nil ?_
  refine hK3 _ _ ?_
  refine W.ret ?_
  have hr := Option.some.inj hf; subst hr
  exact ⟨_, resOk_one rfl rfl, rfl, rfl⟩
theorem cmp_Compare_int.callq {w0 : World} {x1 : Int} {x2 : Int}  {r : Int} (hf : cmp_Compare_int x1 x2 = some r)  :
    Calls Try.prog 13 #[.int .i64 x1, .int .i64 x2] w0 fun e w' => ∃ v, e = .returned v ∧ v = .int .i64 r ∧ w' = w0 := by
  unfold cmp_Compare_int at hf
  refine calls_of_W (fn := Try.f13) (N := 20) Try.func13 rfl Try.ntmps13 rfl ?_
  refine W.seqK fun K3 hK3 => ?_
  refine W.region ?_
  refine WL.assign (v := .int .i64 0) rfl ?_
  refine WL.nil ?_
  refine hK3 _ _ ?_
  refine W.seqK fun K4 hK4 => ?_
  refine W.region ?_
  refine WL.move (v := .int .i64 x1) rfl ?_
  obtain ⟨x5, hxx5, hf⟩ := bindE hf
  refine WL.callQ (vs := [.int .i64 x1]) FN24 ⟨rfl, trivial⟩ (cmp_isNaN_int.callq (x1 := x1) hxx5) ?_
  refine WL.assign (v := .bool x5) rfl ?_
  refine WL.nil ?_
  refine hK4 _ _ ?_
  refine W.seqK fun K6 hK6 => ?_
  refine W.region ?_
  refine WL.move (v := .int .i64 x2) rfl ?_
  obtain ⟨x7, hxx7, hf⟩ := bindE hf
  refine WL.callQ (vs := [.int .i64 x2]) FN24 ⟨rfl, trivial⟩ (cmp_isNaN_int.callq (x1 := x2) hxx7) ?_
  refine WL.assign (v := .bool x7) rfl ?_
  refine WL.nil ?_
  refine hK6 _ _ ?_
  refine W.seqK fun K8 hK8 => ?_
  refine W.seqK fun K9 hK9 => ?_
  refine W.region ?_
  refine WL.move (v := .bool x5) rfl ?_
  refine WL.nil ?_
  refine hK9 _ _ ?_
  rcases iteE hf with ⟨hc10, hf⟩ | ⟨hc10, hf⟩
  · refine W.cond_true (bool_tr rfl hc10) ?_
    refine W.seqK fun K11 hK11 => ?_
    refine W.seqK fun K12 hK12 => ?_
    refine W.region ?_
    refine WL.move (v := .bool x7) rfl ?_
    refine WL.nil ?_
    refine hK12 _ _ ?_
    rcases iteE hf with ⟨hc13, hf⟩ | ⟨hc13, hf⟩
    · refine W.cond_true (bool_tr rfl hc13) ?_
      refine W.seqK fun K14 hK14 => ?_
      refine W.region ?_
      refine WL.assign (v := .int .i64 0) rfl ?_
      refine WL.nil ?_
      refine hK14 _ _ ?_
      refine W.ret ?_
      have hr := Option.some.inj hf; subst hr
      exact ⟨_, resOk_one rfl rfl, rfl, rfl⟩
    · refine W.cond_false (bool_tr rfl hc13) ?_
      refine W.skip ?_
      refine hK11 _ _ ?_
      refine W.seqK fun K15 hK15 => ?_
      refine W.region ?_
      refine WL.assign (v := .int .i64 (-1)) rfl ?_
      refine WL.nil ?_
      refine hK15 _ _ ?_
      refine W.ret ?_
      have hr := Option.some.inj hf; subst hr
      exact ⟨_, resOk_one rfl rfl, rfl, rfl⟩
  · refine W.cond_false (bool_tr rfl hc10) ?_
    refine W.skip ?_
    refine hK8 _ _ ?_
    refine W.seqK fun K16 hK16 => ?_
    refine W.seqK fun K17 hK17 => ?_
    refine W.region ?_
    refine WL.move (v := .bool x7) rfl ?_
    refine WL.nil ?_
    refine hK17 _ _ ?_
    rcases iteE hf with ⟨hc18, hf⟩ | ⟨hc18, hf⟩
    · refine W.cond_true (bool_tr rfl hc18) ?_
      refine W.seqK fun K19 hK19 => ?_
      refine W.region ?_
      refine WL.assign (v := .int .i64 1) rfl ?_
      refine WL.nil ?_
      refine hK19 _ _ ?_
      refine W.ret ?_
      have hr := Option.some.inj hf; subst hr
      exact ⟨_, resOk_one rfl rfl, rfl, rfl⟩
    · refine W.cond_false (bool_tr rfl hc18) ?_
      refine W.skip ?_
      refine hK16 _ _ ?_
      refine W.seqK fun K20 hK20 => ?_
      refine W.seqK fun K21 hK21 => ?_
      refine W.region ?_
      refine WL.move (v := .int .i64 x1) rfl ?_
      refine WL.move (v := .int .i64 x2) rfl ?_
      refine WL.bin (v := .bool (decide (x1 < x2))) rfl rfl (ib_lss _ _ _) ?_
      refine WL.nil ?_
      refine hK21 _ _ ?_
      rcases iteE hf with ⟨hc22, hf⟩ | ⟨hc22, hf⟩
      · refine W.cond_true (bool_tr rfl hc22) ?_
        refine W.seqK fun K23 hK23 => ?_
        refine W.region ?_
        refine WL.assign (v := .int .i64 (-1)) rfl ?_
        refine WL.nil ?_
        refine hK23 _ _ ?_
        refine W.ret ?_
        have hr := Option.some.inj hf; subst hr
        exact ⟨_, resOk_one rfl rfl, rfl, rfl⟩
      · refine W.cond_false (bool_tr rfl hc22) ?_
        refine W.skip ?_
        refine hK20 _ _ ?_
        refine W.seqK fun K24 hK24 => ?_
        refine W.seqK fun K25 hK25 => ?_
        refine W.region ?_
        refine WL.move (v := .int .i64 x1) rfl ?_
        refine WL.move (v := .int .i64 x2) rfl ?_
        refine WL.bin (v := .bool (decide (x2 < x1))) rfl rfl (ib_gtr _ _ _) ?_
        refine WL.nil ?_
        refine hK25 _ _ ?_
        rcases iteE hf with ⟨hc26, hf⟩ | ⟨hc26, hf⟩
        · refine W.cond_true (bool_tr rfl hc26) ?_
          refine W.seqK fun K27 hK27 => ?_
          refine W.region ?_
          refine WL.assign (v := .int .i64 1) rfl ?_
          refine WL.nil ?_
          refine hK27 _ _ ?_
          refine W.ret ?_
          have hr := Option.some.inj hf; subst hr
          exact ⟨_, resOk_one rfl rfl, rfl, rfl⟩
        · refine W.cond_false (bool_tr rfl hc26) ?_
          refine W.skip ?_
          refine hK24 _ _ ?_
          refine W.seqK fun K28 hK28 => ?_
          refine W.region ?_
          refine WL.assign (v := .int .i64 0) rfl ?_
          refine WL.nil ?_
          refine hK28 _ _ ?_
          refine W.ret ?_
          have hr := Option.some.inj hf; subst hr
          exact ⟨_, resOk_one rfl rfl, rfl, rfl⟩
theorem cmp_isNaN_int64.callq {w0 : World} {x1 : Int}  {r : Bool} (hf : cmp_isNaN_int64 x1 = some r)  :
    Calls Try.prog 25 #[.int .i64 x1] w0 fun e w' => ∃ v, e = .returned v ∧ v = .bool r ∧ w' = w0 := by
  unfold cmp_isNaN_int64 at hf
  refine calls_of_W (fn := Try.f25) (N := 6) Try.func25 rfl Try.ntmps25 rfl ?_
  refine W.seqK fun K2 hK2 => ?_
  refine W.region ?_
  refine WL.assign (v := .bool false) rfl ?_
  refine WL.nil ?_
  refine hK2 _ _ ?_
  refine W.seqK fun K3 hK3 => ?_
  refine W.region ?_
  refine WL.move (v := .int .i64 x1) rfl ?_
  refine WL.move (v := .int .i64 x1) rfl ?_
  refine WL.bin (v := .bool (x1 != x1)) rfl rfl (ib_neq _ _ _) ?_
  refine WL.assign (v := .bool (x1 != x1)) rfl ?_
  refine WL.nil ?_
  refine hK3 _ _ ?_
  refine W.ret ?_
  have hr := Option.some.inj hf; subst hr
  exact ⟨_, resOk_one rfl rfl, rfl, rfl⟩
theorem cmp_Compare_int64.callq {w0 : World} {x1 : Int} {x2 : Int}  {r : Int} (hf : cmp_Compare_int64 x1 x2 = some r)  :
    Calls Try.prog 14 #[.int .i64 x1, .int .i64 x2] w0 fun e w' => ∃ v, e = .returned v ∧ v = .int .i64 r ∧ w' = w0 := by
  unfold cmp_Compare_int64 at hf
  refine calls_of_W (fn := Try.f14) (N := 20) Try.func14 rfl Try.ntmps14 rfl ?_
  refine W.seqK fun K3 hK3 => ?_
  refine W.region ?_
  refine WL.assign (v := .int .i64 0) rfl ?_
  refine WL.nil ?_
  refine hK3 _ _ ?_
  refine W.seqK fun K4 hK4 => ?_
  refine W.region ?_
  refine WL.move (v := .int .i64 x1) rfl ?_
  obtain ⟨x5, hxx5, hf⟩ := bindE hf
  refine WL.callQ (vs := [.int .i64 x1]) FN25 ⟨rfl, trivial⟩ (cmp_isNaN_int64.callq (x1 := x1) hxx5) ?_
  refine WL.assign (v := .bool x5) rfl ?_
  refine WL.nil ?_
  refine hK4 _ _ ?_
  refine W.seqK fun K6 hK6 => ?_
  refine W.region ?_
  refine WL.move (v := .int .i64 x2) rfl ?_
  obtain ⟨x7, hxx7, hf⟩ := bindE hf
  refine WL.callQ (vs := [.int .i64 x2]) FN25 ⟨rfl, trivial⟩ (cmp_isNaN_int64.callq (x1 := x2) hxx7) ?_
  refine WL.assign (v := .bool x7) rfl ?_
  refine WL.nil ?_
  refine hK6 _ _ ?_
  refine W.seqK fun K8 hK8 => ?_
  refine W.seqK fun K9 hK9 => ?_
  refine W.region ?_
  refine WL.move (v := .bool x5) rfl ?_
  refine WL.nil ?_
  refine hK9 _ _ ?_
  rcases iteE hf with ⟨hc10, hf⟩ | ⟨hc10, hf⟩
  · refine W.cond_true (bool_tr rfl hc10) ?_
    refine W.seqK fun K11 hK11 => ?_
    refine W.seqK fun K12 hK12 => ?_
    refine W.region ?_
    refine WL.move (v := .bool x7) rfl ?_
    refine WL.nil ?_
    refine hK12 _ _ ?_
    rcases iteE hf with ⟨hc13, hf⟩ | ⟨hc13, hf⟩
    · refine W.cond_true (bool_tr rfl hc13) ?_
      refine W.seqK fun K14 hK14 => ?_
      refine W.region ?_
      refine WL.assign (v := .int .i64 0) rfl ?_
      refine WL.nil ?_
      refine hK14 _ _ ?_
      refine W.ret ?_
      have hr := Option.some.inj hf; subst hr
      exact ⟨_, resOk_one rfl rfl, rfl, rfl⟩
    · refine W.cond_false (bool_tr rfl hc13) ?_
      refine W.skip ?_
      refine hK11 _ _ ?_
      refine W.seqK fun K15 hK15 => ?_
      refine W.region ?_
      refine WL.assign (v := .int .i64 (-1)) rfl ?_
      refine WL.nil ?_
      refine hK15 _ _ ?_
      refine W.ret ?_
      have hr := Option.some.inj hf; subst hr
      exact ⟨_, resOk_one rfl rfl, rfl, rfl⟩
  · refine W.cond_false (bool_tr rfl hc10) ?_
    refine W.skip ?_
    refine hK8 _ _ ?_
    refine W.seqK fun K16 hK16 => ?_
    refine W.seqK fun K17 hK17 => ?_
    refine W.region ?_
    refine WL.move (v := .bool x7) rfl ?_
    refine WL.nil ?_
    refine hK17 _ _ ?_
    rcases iteE hf with ⟨hc18, hf⟩ | ⟨hc18, hf⟩
    · refine W.cond_true (bool_tr rfl hc18) ?_
      refine W.seqK fun K19 hK19 => ?_
      refine W.region ?_
      refine WL.assign (v := .int .i64 1) rfl ?_
      refine WL.nil ?_
      refine hK19 _ _ ?_
      refine W.ret ?_
      have hr := Option.some.inj hf; subst hr
      exact ⟨_, resOk_one rfl rfl, rfl, rfl⟩
    · refine W.cond_false (bool_tr rfl hc18) ?_
      refine W.skip ?_
      refine hK16 _ _ ?_
      refine W.seqK fun K20 hK20 => ?_
      refine W.seqK fun K21 hK21 => ?_
      refine W.region ?_
      refine WL.move (v := .int .i64 x1) rfl ?_
      refine WL.move (v := .int .i64 x2) rfl ?_
      refine WL.bin (v := .bool (decide (x1 < x2))) rfl rfl (ib_lss _ _ _) ?_
      refine WL.nil ?_
      refine hK21 _ _ ?_
      rcases iteE hf with ⟨hc22, hf⟩ | ⟨hc22, hf⟩
      · refine W.cond_true (bool_tr rfl hc22) ?_
        refine W.seqK fun K23 hK23 => ?_
        refine W.region ?_
        refine WL.assign (v := .int .i64 (-1)) rfl ?_
        refine WL.nil ?_
        refine hK23 _ _ ?_
        refine W.ret ?_
        have hr := Option.some.inj hf; subst hr
        exact ⟨_, resOk_one rfl rfl, rfl, rfl⟩
      · refine W.cond_false (bool_tr rfl hc22) ?_
        refine W.skip ?_
        refine hK20 _ _ ?_
        refine W.seqK fun K24 hK24 => ?_
        refine W.seqK fun K25 hK25 => ?_
        refine W.region ?_
        refine WL.move (v := .int .i64 x1) rfl ?_
        refine WL.move (v := .int .i64 x2) rfl ?_
        refine WL.bin (v := .bool (decide (x2 < x1))) rfl rfl (ib_gtr _ _ _) ?_
        refine WL.nil ?_
        refine hK25 _ _ ?_
        rcases iteE hf with ⟨hc26, hf⟩ | ⟨hc26, hf⟩
        · refine W.cond_true (bool_tr rfl hc26) ?_
          refine W.seqK fun K27 hK27 => ?_
          refine W.region ?_
          refine WL.assign (v := .int .i64 1) rfl ?_
          refine WL.nil ?_
          refine hK27 _ _ ?_
          refine W.ret ?_
          have hr := Option.some.inj hf; subst hr
          exact ⟨_, resOk_one rfl rfl, rfl, rfl⟩
        · refine W.cond_false (bool_tr rfl hc26) ?_
          refine W.skip ?_
          refine hK24 _ _ ?_
          refine W.seqK fun K28 hK28 => ?_
          refine W.region ?_
          refine WL.assign (v := .int .i64 0) rfl ?_
          refine WL.nil ?_
          refine hK28 _ _ ?_
          refine W.ret ?_
          have hr := Option.some.inj hf; subst hr
          exact ⟨_, resOk_one rfl rfl, rfl, rfl⟩
theorem cmp_isNaN_string.callq {w0 : World} {x1 : List UInt8}  {r : Bool} (hf : cmp_isNaN_string x1 = some r)  :
    Calls Try.prog 26 #[bstr x1] w0 fun e w' => ∃ v, e = .returned v ∧ v = .bool r ∧ w' = w0 := by
  unfold cmp_isNaN_string at hf
  refine calls_of_W (fn := Try.f26) (N := 6) Try.func26 rfl Try.ntmps26 rfl ?_
  refine W.seqK fun K2 hK2 => ?_
  refine W.region ?_
  refine WL.assign (v := .bool false) rfl ?_
  refine WL.nil ?_
  refine hK2 _ _ ?_
  refine W.seqK fun K3 hK3 => ?_
  refine W.region ?_
  refine WL.move (v := bstr x1) rfl ?_
  refine WL.move (v := bstr x1) rfl ?_
  refine WL.binS (v := .bool (x1 != x1)) rfl rfl (sb_neq _ _) ?_
  refine WL.assign (v := .bool (x1 != x1)) rfl ?_
  refine WL.nil ?_
  refine hK3 _ _ ?_
  refine W.ret ?_
  have hr := Option.some.inj hf; subst hr
  exact ⟨_, resOk_one rfl rfl, rfl, rfl⟩
theorem cmp_Compare_string.callq {w0 : World} {x1 : List UInt8} {x2 : List UInt8}  {r : Int} (hf : cmp_Compare_string x1 x2 = some r)  :
    Calls Try.prog 15 #[bstr x1, bstr x2] w0 fun e w' => ∃ v, e = .returned v ∧ v = .int .i64 r ∧ w' = w0 := by
  unfold cmp_Compare_string at hf
  refine calls_of_W (fn := Try.f15) (N := 20) Try.func15 rfl Try.ntmps15 rfl ?_
  refine W.seqK fun K3 hK3 => ?_
  refine W.region ?_
  refine WL.assign (v := .int .i64 0) rfl ?_
  refine WL.nil ?_
  refine hK3 _ _ ?_
  refine W.seqK fun K4 hK4 => ?_
  refine W.region ?_
  refine WL.move (v := bstr x1) rfl ?_
  obtain ⟨x5, hxx5, hf⟩ := bindE hf
  refine WL.callQ (vs := [bstr x1]) FN26 ⟨rfl, trivial⟩ (cmp_isNaN_string.callq (x1 := x1) hxx5) ?_
  refine WL.assign (v := .bool x5) rfl ?_
  refine WL.nil ?_
  refine hK4 _ _ ?_
  refine W.seqK fun K6 hK6 => ?_
  refine W.region ?_
  refine WL.move (v := bstr x2) rfl ?_
  obtain ⟨x7, hxx7, hf⟩ := bindE hf
  refine WL.callQ (vs := [bstr x2]) FN26 ⟨rfl, trivial⟩ (cmp_isNaN_string.callq (x1 := x2) hxx7) ?_
  refine WL.assign (v := .bool x7) rfl ?_
  refine WL.nil ?_
  refine hK6 _ _ ?_
  refine W.seqK fun K8 hK8 => ?_
  refine W.seqK fun K9 hK9 => ?_
  refine W.region ?_
  refine WL.move (v := .bool x5) rfl ?_
  refine WL.nil ?_
  refine hK9 _ _ ?_
  rcases iteE hf with ⟨hc10, hf⟩ | ⟨hc10, hf⟩
  · refine W.cond_true (bool_tr rfl hc10) ?_
    refine W.seqK fun K11 hK11 => ?_
    refine W.seqK fun K12 hK12 => ?_
    refine W.region ?_
    refine WL.move (v := .bool x7) rfl ?_
    refine WL.nil ?_
    refine hK12 _ _ ?_
    rcases iteE hf with ⟨hc13, hf⟩ | ⟨hc13, hf⟩
    · refine W.cond_true (bool_tr rfl hc13) ?_
      refine W.seqK fun K14 hK14 => ?_
      refine W.region ?_
      refine WL.assign (v := .int .i64 0) rfl ?_
      refine WL.nil ?_
      refine hK14 _ _ ?_
      refine W.ret ?_
      have hr := Option.some.inj hf; subst hr
      exact ⟨_, resOk_one rfl rfl, rfl, rfl⟩
    · refine W.cond_false (bool_tr rfl hc13) ?_
      refine W.skip ?_
      refine hK11 _ _ ?_
      refine W.seqK fun K15 hK15 => ?_
      refine W.region ?_
      refine WL.assign (v := .int .i64 (-1)) rfl ?_
      refine WL.nil ?_
      refine hK15 _ _ ?_
      refine W.ret ?_
      have hr := Option.some.inj hf; subst hr
      exact ⟨_, resOk_one rfl rfl, rfl, rfl⟩
  · refine W.cond_false (bool_tr rfl hc10) ?_
    refine W.skip ?_
    refine hK8 _ _ ?_
    refine W.seqK fun K16 hK16 => ?_
    refine W.seqK fun K17 hK17 => ?_
    refine W.region ?_
    refine WL.move (v := .bool x7) rfl ?_
    refine WL.nil ?_
    refine hK17 _ _ ?_
    rcases iteE hf with ⟨hc18, hf⟩ | ⟨hc18, hf⟩
    · refine W.cond_true (bool_tr rfl hc18) ?_
      refine W.seqK fun K19 hK19 => ?_
      refine W.region ?_
      refine WL.assign (v := .int .i64 1) rfl ?_
      refine WL.nil ?_
      refine hK19 _ _ ?_
      refine W.ret ?_
      have hr := Option.some.inj hf; subst hr
      exact ⟨_, resOk_one rfl rfl, rfl, rfl⟩
    · refine W.cond_false (bool_tr rfl hc18) ?_
      refine W.skip ?_
      refine hK16 _ _ ?_
      refine W.seqK fun K20 hK20 => ?_
      refine W.seqK fun K21 hK21 => ?_
      refine W.region ?_
      refine WL.move (v := bstr x1) rfl ?_
      refine WL.move (v := bstr x2) rfl ?_
      refine WL.binS (v := .bool (Op.bytesLess x1 x2)) rfl rfl (sb_lss _ _) ?_
      refine WL.nil ?_
      refine hK21 _ _ ?_
      rcases iteE hf with ⟨hc22, hf⟩ | ⟨hc22, hf⟩
      · refine W.cond_true (bool_tr rfl hc22) ?_
        refine W.seqK fun K23 hK23 => ?_
        refine W.region ?_
        refine WL.assign (v := .int .i64 (-1)) rfl ?_
        refine WL.nil ?_
        refine hK23 _ _ ?_
        refine W.ret ?_
        have hr := Option.some.inj hf; subst hr
        exact ⟨_, resOk_one rfl rfl, rfl, rfl⟩
      · refine W.cond_false (bool_tr rfl hc22) ?_
        refine W.skip ?_
        refine hK20 _ _ ?_
        refine W.seqK fun K24 hK24 => ?_
        refine W.seqK fun K25 hK25 => ?_
        refine W.region ?_
        refine WL.move (v := bstr x1) rfl ?_
        refine WL.move (v := bstr x2) rfl ?_
        refine WL.binS (v := .bool (!(Op.bytesLess x1 x2 || x1 == x2))) rfl rfl (sb_gtr _ _) ?_
        refine WL.nil ?_
        refine hK25 _ _ ?_
        rcases iteE hf with ⟨hc26, hf⟩ | ⟨hc26, hf⟩
        · refine W.cond_true (bool_tr rfl hc26) ?_
          refine W.seqK fun K27 hK27 => ?_
          refine W.region ?_
          refine WL.assign (v := .int .i64 1) rfl ?_
          refine WL.nil ?_
          refine hK27 _ _ ?_
          refine W.ret ?_
          have hr := Option.some.inj hf; subst hr
          exact ⟨_, resOk_one rfl rfl, rfl, rfl⟩
        · refine W.cond_false (bool_tr rfl hc26) ?_
          refine W.skip ?_
          refine hK24 _ _ ?_
          refine W.seqK fun K28 hK28 => ?_
          refine W.region ?_
          refine WL.assign (v := .int .i64 0) rfl ?_
          refine WL.nil ?_
          refine hK28 _ _ ?_
          refine W.ret ?_
          have hr := Option.some.inj hf; subst hr
          exact ⟨_, resOk_one rfl rfl, rfl, rfl⟩
theorem cmp_Or_int.callq {ok : Nat → Prop} {w0 : World} {x1 : List Int} {a2 : Option Addr} {c3 : Nat} {r : Int} (hf : cmp_Or_int x1 = some r) (i0 : (vl (tSlice (tInt .i64)) x1 (.slice a2 x1.length c3)).holds ok w0) :
    Calls Try.prog 12 #[.slice a2 x1.length c3] w0 fun e w' => ∃ v, e = .returned v ∧ v = .int .i64 r ∧ w' = w0 := by
  unfold cmp_Or_int at hf
  refine calls_of_W (fn := Try.f12) (N := 18) Try.func12 rfl Try.ntmps12 rfl ?_
  have hs : St ok (bz w0) w0 [vl (tSlice (tInt .i64)) x1 (.slice a2 x1.length c3)] [] := St.init (All.cons i0 All.nil)
  clear i0
  refine W.seqK fun K4 hK4 => ?_
  refine W.region ?_
  refine WL.assign (v := .int .i64 0) rfl ?_
  refine WL.nil ?_
  refine hK4 _ _ ?_
  refine W.seqK fun K5 hK5 => ?_
  refine W.region ?_
  refine WL.assign (v := .int .i64 0) rfl ?_
  refine WL.nil ?_
  refine hK5 _ _ ?_
  refine W.seqK fun K6 hK6 => ?_
  have Jk8 : ∀  (ρ : Env) (w : World), ρ 3 = .int .i64 0 → St ok (bz w0) w [] [] → w = w0 → cmp_Or_int.j1 = some r → K6 ρ w := by
    intro  ρ w h7_3 hs hw hf
    refine hK6 _ _ ?_
    unfold cmp_Or_int.j1 at hf
    refine W.seqK fun K9 hK9 => ?_
    refine W.region ?_
    refine WL.move (v := .int .i64 0) h7_3 ?_
    refine WL.assign (v := .int .i64 0) rfl ?_
    refine WL.nil ?_
    refine hK9 _ _ ?_
    refine W.ret ?_
    have hr := Option.some.inj hf; subst hr
    exact ⟨_, resOk_one rfl rfl, rfl, hw⟩
  refine W.seqK fun K10 hK10 => ?_
  refine W.region ?_
  refine WL.move (v := .slice a2 x1.length c3) rfl ?_
  refine WL.len (v := .slice a2 x1.length c3) rfl (len_slice UN59) ?_
  refine WL.move (v := .int .i64 0) rfl ?_
  refine WL.nil ?_
  refine hK10 _ _ ?_
  refine W.block ?_
  obtain ⟨bs13, hbs13, hfs13⟩ := bindE hf
  refine W.loop hbs13 (fun s ρ w => match s with | x12 => ρ 3 = .int .i64 0 ∧ ρ 6 = .slice a2 x1.length c3 ∧ ρ 7 = .int .i64 (x1.length : Int) ∧ ρ 8 = .int .i64 x12 ∧ St ok (bz w0) w [vl (tSlice (tInt .i64)) x1 (.slice a2 x1.length c3)] [] ∧ w = w0) ⟨rfl, rfl, rfl, rfl, (hs.mask []).pick [0], rfl⟩ ?_
  intro x12 ρ w os13 hI hf hbbs13
  obtain ⟨h11_3, h11_6, h11_7, h11_8, hs, hw⟩ := hI
  unfold cmp_Or_int.l1 at hf
  refine W.seqK fun K14 hK14 => ?_
  refine W.region ?_
  refine WL.bin (v := .bool (decide (x12 < (x1.length : Int)))) h11_8 h11_7 (ib_lss _ _ _) ?_
  refine WL.nil ?_
  refine hK14 _ _ ?_
  refine W.seqK fun K15 hK15 => ?_
  rcases iteE hf with ⟨hc16, hf⟩ | ⟨hc16, hf⟩
  · refine W.cond_true (bool_tr rfl hc16) ?_
    refine W.skip ?_
    refine hK15 _ _ ?_
    refine W.seqK fun K17 hK17 => ?_
    refine W.block ?_
    refine W.seqK fun K18 hK18 => ?_
    refine W.region ?_
    obtain ⟨x19, hxx19, hf⟩ := bindE hf
    refine WL.indexAddr hs 0 rfl UN59 TI3 h11_6 h11_8 hxx19 (fun ad20 hs => ?_)
    refine WL.loadP hs 0 rfl TI3 (.inr rfl) rfl (fun v21 hs => ?_)
    obtain rfl := hs.int 0 rfl
    refine WL.assign (v := .int .i64 x19) rfl ?_
    refine WL.nil ?_
    refine hK18 _ _ ?_
    refine W.seqK fun K22 hK22 => ?_
    refine W.region ?_
    refine WL.move (v := .int .i64 x19) rfl ?_
    refine WL.move (v := .int .i64 0) h11_3 ?_
    refine WL.bin (v := .bool (x19 != 0)) rfl rfl (ib_neq _ _ _) ?_
    refine WL.nil ?_
    refine hK22 _ _ ?_
    rcases iteE hf with ⟨hc23, hf⟩ | ⟨hc23, hf⟩
    · refine W.cond_true (bool_tr rfl hc23) ?_
      refine W.seqK fun K24 hK24 => ?_
      refine W.region ?_
      refine WL.move (v := .int .i64 x19) rfl ?_
      refine WL.assign (v := .int .i64 x19) rfl ?_
      refine WL.nil ?_
      refine hK24 _ _ ?_
      refine W.ret ?_
      have hr := Option.some.inj hf; subst hr
      have hr := hbbs13 _ rfl; subst hr
      have hf := hfs13
      have hr := Option.some.inj hf; subst hr
      exact ⟨_, resOk_one rfl rfl, rfl, hw⟩
    · refine W.cond_false (bool_tr rfl hc23) ?_
      refine W.skip ?_
      refine hK17 _ _ ?_
      refine W.region ?_
      obtain ⟨x25, ex25, hf⟩ := letE hf
      refine WL.bin (v := .int .i64 x25) h11_8 rfl (ib_as ex25 (ib_add _ _ _)) ?_
      refine WL.move (v := .int .i64 x25) rfl ?_
      refine WL.nil ?_
      exact ⟨_, (Option.some.inj hf).symm, h11_3, h11_6, h11_7, rfl, (hs.mask []).pick [2], hw⟩
  · refine W.cond_false (bool_tr rfl hc16) ?_
    refine W.exit ?_
    have hr := Option.some.inj hf; subst hr
    have hr := hbbs13 _ rfl; subst hr
    have hf := hfs13
    exact Jk8  _ _ h11_3 ((hs.mask []).pick []) hw hf/-! index.Compare: new memory, and draws. -/
theorem compare64_eq (a b : Int) : cmp_Compare_int64 a b = some (cmpI a b) := by
  unfold cmp_Compare_int64 cmp_isNaN_int64 cmpI
  simp only [Option.bind_some, bne_self_eq_false, Bool.false_eq_true, if_false]
  by_cases h1 : a < b
  · simp [h1]
  · by_cases h2 : b < a <;> simp [h1, h2]
theorem compareS_eq (a b : List UInt8) : cmp_Compare_string a b = some (cmpS a b) := by
  unfold cmp_Compare_string cmp_isNaN_string cmpS
  simp only [Option.bind_some, bne_self_eq_false, Bool.false_eq_true, if_false]
  cases h1 : Op.bytesLess a b with
  | true => simp
  | false =>
    cases h2 : Op.bytesLess b a with
    | true =>
      have : (a == b) = false := by
        rw [beq_eq_false_iff_ne]
        rintro rfl
        rw [h1] at h2
        cases h2
      simp [this]
    | false =>
      have : a = b := bl_tri h1 h2
      simp [this, bl_irrefl]
theorem keyR {ok : Nat → Prop} {w : World} {x : index_Key} {cs : List Value} (h : t_index_Key.R ok w x cs) : cs = [.int .i64 x.f_Type, .int .i64 x.N, bstr x.S] := by
  obtain ⟨c1, c2, rfl, h1, c3, c4, rfl, h2, h3⟩ := h
  rw [show c1 = _ from h1, show c3 = _ from h2, show c4 = _ from h3]
  rfl
theorem index_Compare_gr (x y : index_Key) (Wd : World) : Calls Try.prog 5 #[.agg ([.int .i64 x.f_Type, .int .i64 x.N, bstr x.S] : List Value).toArray, .agg ([.int .i64 y.f_Type, .int .i64 y.N, bstr y.S] : List Value).toArray] Wd fun e w' => e = .returned (.int .i64 (keyCmp x y)) ∧ Gr Wd w' := by
  refine (calls_of_W (args := [.agg ([.int .i64 x.f_Type, .int .i64 x.N, bstr x.S] : List Value).toArray, .agg ([.int .i64 y.f_Type, .int .i64 y.N, bstr y.S] : List Value).toArray]) (R := fun v w' => v = .int .i64 (keyCmp x y) ∧ Gr Wd w') (fn := Try.f5) (N := 22) Try.func5 rfl Try.ntmps5 rfl ?_).mono (by rintro e w' ⟨v, rfl, rfl, h⟩; exact ⟨rfl, h⟩)
  refine W.seqK fun K1 hK1 => ?_
  refine W.region ?_
  refine WL.boxE (vs := [.int .i64 x.f_Type, .int .i64 x.N, bstr x.S]) rfl rfl ?_
  refine WL.boxE (vs := [.int .i64 y.f_Type, .int .i64 y.N, bstr y.S]) rfl rfl ?_
  refine WL.assign (v := .int .i64 0) rfl ?_
  refine WL.nil ?_
  refine hK1 _ _ ?_
  refine W.seqK fun K2 hK2 => ?_
  obtain ⟨g2, hg2⟩ : ∃ g, Wd.heap.size = g := ⟨_, rfl⟩
  have e3 : (Wd.alloc (.cells ([.int .i64 x.f_Type, .int .i64 x.N, bstr x.S] : List Value).toArray 23)).heap.size = g2 + 1 := by rw [size_alloc, hg2]
  have hb2 : ((Wd.alloc (.cells ([.int .i64 x.f_Type, .int .i64 x.N, bstr x.S] : List Value).toArray 23)).alloc (.cells ([.int .i64 y.f_Type, .int .i64 y.N, bstr y.S] : List Value).toArray 23)).heap[g2]? = some (.cells ([.int .i64 x.f_Type, .int .i64 x.N, bstr x.S] : List Value).toArray 23 (0, 0)) := by
    rw [Below.heap_alloc _ _ _ (by rw [e3]; omega), ← hg2]
    exact heap_new Wd _
  have hb3 : ((Wd.alloc (.cells ([.int .i64 x.f_Type, .int .i64 x.N, bstr x.S] : List Value).toArray 23)).alloc (.cells ([.int .i64 y.f_Type, .int .i64 y.N, bstr y.S] : List Value).toArray 23)).heap[g2 + 1]? = some (.cells ([.int .i64 y.f_Type, .int .i64 y.N, bstr y.S] : List Value).toArray 23 (0, 0)) := by
    rw [← e3]
    exact heap_new _ _
  have hG : Gr Wd ((Wd.alloc (.cells ([.int .i64 x.f_Type, .int .i64 x.N, bstr x.S] : List Value).toArray 23)).alloc (.cells ([.int .i64 y.f_Type, .int .i64 y.N, bstr y.S] : List Value).toArray 23)) := ((Gr.refl Wd).alloc _).alloc _
  rw [e3]
  rw [hg2]
  generalize (Wd.alloc (.cells ([.int .i64 x.f_Type, .int .i64 x.N, bstr x.S] : List Value).toArray 23)).alloc (.cells ([.int .i64 y.f_Type, .int .i64 y.N, bstr y.S] : List Value).toArray 23) = W1 at hb2 hb3 hG
  have hl2 := lt_of_some hb2
  have hl3 := lt_of_some hb3
  refine W.anyI (I := fun w => Gr W1 w) (fun w h => h.drew) (by kernel_rfl) 15 3 [true, true, true, true, true, true, true, true, true, true, true, true, true, true, true, false, false, false] rfl rfl
    (fun i v => v = ([.pointer (some ⟨g2, 0, none⟩), .int .i64 x.f_Type, .pointer (some ⟨g2 + 1, 0, none⟩), .int .i64 y.f_Type, .int .i64 (cmpI x.f_Type y.f_Type), .pointer (some ⟨g2, 1, none⟩), .int .i64 x.N, .pointer (some ⟨g2 + 1, 1, none⟩), .int .i64 y.N, .int .i64 (cmpI x.N y.N),
      .pointer (some ⟨g2, 2, none⟩), bstr x.S, .pointer (some ⟨g2 + 1, 2, none⟩), bstr y.S, .int .i64 (cmpS x.S y.S)] : List Value).getD i undef) (Gr.refl W1) (by kernel_rfl) (by kernel_rfl)
    ⟨⟨⟨⟨⟨⟨⟨⟨⟨⟨⟨⟨⟨⟨⟨trivial, ?_⟩, ?_⟩, ?_⟩, ?_⟩, ?_⟩, ?_⟩, ?_⟩, ?_⟩, ?_⟩, ?_⟩, ?_⟩, ?_⟩, ?_⟩, ?_⟩, ?_⟩ ?_
  · intro ρ w hI hu hp
    refine WL.fieldAddr (m := 0) ((hu 2 rfl).trans rfl) FA23_0 rfl ?_
    exact WL.nil ⟨rfl, _, rfl, rfl, hI⟩
  · intro ρ w hI hu hp
    refine WL.loadE (v := .int .i64 x.f_Type) ((hI.block hl2).trans hb2) TI3 (hp 0 rfl) rfl ?_
    exact WL.nil ⟨rfl, _, rfl, rfl, hI⟩
  · intro ρ w hI hu hp
    refine WL.fieldAddr (m := 0) ((hu 3 rfl).trans rfl) FA23_0 rfl ?_
    exact WL.nil ⟨rfl, _, rfl, rfl, hI⟩
  · intro ρ w hI hu hp
    refine WL.loadE (v := .int .i64 y.f_Type) ((hI.block hl3).trans hb3) TI3 (hp 2 rfl) rfl ?_
    exact WL.nil ⟨rfl, _, rfl, rfl, hI⟩
  · intro ρ w hI hu hp
    refine WL.callQ (vs := [.int .i64 x.f_Type, .int .i64 y.f_Type]) FN13 ⟨hp 1 rfl, hp 3 rfl, trivial⟩ (cmp_Compare_int.callq (compare_eq _ _)) ?_
    exact WL.nil ⟨rfl, _, rfl, rfl, hI⟩
  · intro ρ w hI hu hp
    refine WL.fieldAddr (m := 1) ((hu 2 rfl).trans rfl) FA23_1 rfl ?_
    exact WL.nil ⟨rfl, _, rfl, rfl, hI⟩
  · intro ρ w hI hu hp
    refine WL.loadE (v := .int .i64 x.N) ((hI.block hl2).trans hb2) TI2 (hp 5 rfl) rfl ?_
    exact WL.nil ⟨rfl, _, rfl, rfl, hI⟩
  · intro ρ w hI hu hp
    refine WL.fieldAddr (m := 1) ((hu 3 rfl).trans rfl) FA23_1 rfl ?_
    exact WL.nil ⟨rfl, _, rfl, rfl, hI⟩
  · intro ρ w hI hu hp
    refine WL.loadE (v := .int .i64 y.N) ((hI.block hl3).trans hb3) TI2 (hp 7 rfl) rfl ?_
    exact WL.nil ⟨rfl, _, rfl, rfl, hI⟩
  · intro ρ w hI hu hp
    refine WL.callQ (vs := [.int .i64 x.N, .int .i64 y.N]) FN14 ⟨hp 6 rfl, hp 8 rfl, trivial⟩ (cmp_Compare_int64.callq (compare64_eq _ _)) ?_
    exact WL.nil ⟨rfl, _, rfl, rfl, hI⟩
  · intro ρ w hI hu hp
    refine WL.fieldAddr (m := 2) ((hu 2 rfl).trans rfl) FA23_2 rfl ?_
    exact WL.nil ⟨rfl, _, rfl, rfl, hI⟩
  · intro ρ w hI hu hp
    refine WL.loadE (v := bstr x.S) ((hI.block hl2).trans hb2) TI9 (hp 10 rfl) rfl ?_
    exact WL.nil ⟨rfl, _, rfl, rfl, hI⟩
  · intro ρ w hI hu hp
    refine WL.fieldAddr (m := 2) ((hu 3 rfl).trans rfl) FA23_2 rfl ?_
    exact WL.nil ⟨rfl, _, rfl, rfl, hI⟩
  · intro ρ w hI hu hp
    refine WL.loadE (v := bstr y.S) ((hI.block hl3).trans hb3) TI9 (hp 12 rfl) rfl ?_
    exact WL.nil ⟨rfl, _, rfl, rfl, hI⟩
  · intro ρ w hI hu hp
    refine WL.callQ (vs := [bstr x.S, bstr y.S]) FN15 ⟨hp 11 rfl, hp 13 rfl, trivial⟩ (cmp_Compare_string.callq (compareS_eq _ _)) ?_
    exact WL.nil ⟨rfl, _, rfl, rfl, hI⟩
  · intro ρ w hI hu hp
    have e9 : ρ 9 = .int .i64 (cmpI x.f_Type y.f_Type) := hp.at_ 4 (by decide)
    have e14 : ρ 14 = .int .i64 (cmpI x.N y.N) := hp.at_ 9 (by decide)
    have e19 : ρ 19 = .int .i64 (cmpS x.S y.S) := hp.at_ 14 (by decide)
    refine WA.step [15] (by kernel_rfl) (by simp) ⟨?_, trivial⟩
    refine WL.buildSliceE (n := 3) (vs := [(0, .int .i64 (cmpI x.f_Type y.f_Type)), (1, .int .i64 (cmpI x.N y.N)), (2, .int .i64 (cmpS x.S y.S))]) (cs := [.int .i64 (cmpI x.f_Type y.f_Type), .int .i64 (cmpI x.N y.N), .int .i64 (cmpS x.S y.S)]) ⟨⟨rfl, e9⟩, ⟨rfl, e14⟩, ⟨rfl, e19⟩, trivial⟩ (bls PS59 (by decide) rfl) ?_
    refine WL.nil ⟨rfl, _, rfl, ?_⟩
    refine WA.step [16] (by kernel_rfl) (by simp) ⟨?_, trivial⟩
    have h1 := ((St.init (ok0 := fun _ => True) (w := w) All.nil).alloc 3 [.int .i64 (cmpI x.f_Type y.f_Type), .int .i64 (cmpI x.N y.N), .int .i64 (cmpS x.S y.S)]).ownLit (A := tInt .i64) (xs := [cmpI x.f_Type y.f_Type, cmpI x.N y.N, cmpS x.S y.S]) 0 rfl (fun ok hA => Cells.app (Cells.one (T := tInt .i64) rfl) (Cells.app (Cells.one (T := tInt .i64) rfl) (Cells.one (T := tInt .i64) rfl))) (Nat.le_of_ble_eq_true rfl)
    obtain ⟨ok, hit⟩ := (h1.freezeOwn 0 rfl).get 0 rfl
    refine WL.callQ (vs := [.slice (some ⟨w.heap.size, 0, none⟩) 3 3]) FN12 ⟨rfl, trivial⟩ (cmp_Or_int.callq (x1 := [cmpI x.f_Type y.f_Type, cmpI x.N y.N, cmpS x.S y.S]) (or_eq _ _ _) hit) ?_
    refine WL.nil ⟨rfl, _, rfl, ?_⟩
    refine WA.step [17] (by kernel_rfl) (by simp) ⟨?_, trivial⟩
    refine WL.assign (v := .int .i64 (keyCmp x y)) rfl ?_
    refine WL.nil ⟨rfl, _, rfl, ?_⟩
    refine WA.done (by kernel_rfl) ?_
    refine hK2 _ _ ?_
    refine W.ret ?_
    exact ⟨_, resOk_one rfl rfl, rfl, hG.trans (Gr.alloc hI _)⟩
theorem cmpI_pos (x y : Int) : (cmpI x y ≠ 0) ↔ x ≠ y := by
  unfold cmpI
  split
  · constructor
    · intro _; omega
    · intro _; decide
  · split
    · constructor
      · intro _; omega
      · intro _; decide
    · constructor
      · intro h; exact absurd rfl h
      · intro h; omega
theorem cmpI_lt (x y : Int) : cmpI x y < 0 ↔ x < y := by
  have := cmpI_neg x y
  rw [decide_eq_decide] at this
  exact this
theorem cmpS_lt (x y : List UInt8) : cmpS x y < 0 ↔ Op.bytesLess x y = true := by
  unfold cmpS
  cases h : Op.bytesLess x y with
  | true => simp
  | false =>
    rw [if_neg (by simp)]
    split <;> simp
def keyLt (a b : index_Key) : Prop := a.f_Type < b.f_Type ∨ a.f_Type = b.f_Type ∧ (a.N < b.N ∨ a.N = b.N ∧ Op.bytesLess a.S b.S = true)
theorem keyCmp_lt (a b : index_Key) : keyCmp a b < 0 ↔ keyLt a b := by
  unfold keyCmp keyLt
  by_cases h1 : cmpI a.f_Type b.f_Type ≠ 0
  · rw [if_pos h1, cmpI_lt]
    rw [cmpI_pos] at h1
    constructor
    · exact .inl
    · rintro (h | ⟨h, _⟩)
      · exact h
      · exact absurd h h1
  · rw [if_neg h1]
    have e1 : a.f_Type = b.f_Type := by
      rw [cmpI_pos] at h1
      exact Classical.byContradiction h1
    by_cases h2 : cmpI a.N b.N ≠ 0
    · rw [if_pos h2, cmpI_lt]
      rw [cmpI_pos] at h2
      constructor
      · exact fun h => .inr ⟨e1, .inl h⟩
      · rintro (h | ⟨_, h | ⟨h, _⟩⟩)
        · omega
        · exact h
        · exact absurd h h2
    · rw [if_neg h2, cmpS_lt]
      have e2 : a.N = b.N := by
        rw [cmpI_pos] at h2
        exact Classical.byContradiction h2
      constructor
      · exact fun h => .inr ⟨e1, .inr ⟨e2, h⟩⟩
      · rintro (h | ⟨_, h | ⟨_, h⟩⟩)
        · omega
        · omega
        · exact h
theorem keyLt_irrefl (a : index_Key) : ¬ keyLt a a := by
  unfold keyLt
  rw [bl_irrefl]
  intro h
  rcases h with h | ⟨_, h | ⟨_, h⟩⟩
  · omega
  · omega
  · cases h
theorem keyLt_trans {a b c : index_Key} (h : keyLt a b) (k : keyLt b c) : keyLt a c := by
  unfold keyLt at *
  rcases h with h | ⟨h1, h | ⟨h2, h⟩⟩ <;> rcases k with k | ⟨k1, k | ⟨k2, k⟩⟩
  · exact .inl (by omega)
  · exact .inl (by omega)
  · exact .inl (by omega)
  · exact .inl (by omega)
  · exact .inr ⟨by omega, .inl (by omega)⟩
  · exact .inr ⟨by omega, .inl (by omega)⟩
  · exact .inl (by omega)
  · exact .inr ⟨by omega, .inl (by omega)⟩
  · exact .inr ⟨by omega, .inr ⟨by omega, bl_trans h k⟩⟩
theorem key_tri {a b : index_Key} (h : ¬ keyLt a b) (k : ¬ keyLt b a) : a = b := by
  unfold keyLt at h k
  have e1 : a.f_Type = b.f_Type := by
    have h1 : ¬ a.f_Type < b.f_Type := fun x => h (.inl x)
    have k1 : ¬ b.f_Type < a.f_Type := fun x => k (.inl x)
    omega
  have e2 : a.N = b.N := by
    have h1 : ¬ a.N < b.N := fun x => h (.inr ⟨e1, .inl x⟩)
    have k1 : ¬ b.N < a.N := fun x => k (.inr ⟨e1.symm, .inl x⟩)
    omega
  have e3 : a.S = b.S := bl_tri (by
    cases q : Op.bytesLess a.S b.S with
    | false => rfl
    | true => exact absurd (.inr ⟨e1, .inr ⟨e2, q⟩⟩) h) (by
    cases q : Op.bytesLess b.S a.S with
    | false => rfl
    | true => exact absurd (.inr ⟨e1.symm, .inr ⟨e2.symm, q⟩⟩) k)
  obtain ⟨t, n, s⟩ := a
  obtain ⟨t', n', s'⟩ := b
  simp only at e1 e2 e3
  rw [e1, e2, e3]
theorem swo_keys {α : Type} (f : α → index_Key) : Go.Sort.SWO fun x y : α => decide (keyCmp (f x) (f y) < 0) where
  irrefl x := by
    rw [decide_eq_false_iff_not, keyCmp_lt]
    exact keyLt_irrefl _
  trans x y z h1 h2 := by
    rw [decide_eq_true_iff, keyCmp_lt] at *
    exact keyLt_trans h1 h2
  ntrans x y z h1 h2 := by
    rw [decide_eq_false_iff_not, keyCmp_lt] at *
    intro h3
    by_cases k1 : keyLt (f y) (f x)
    · exact h2 (keyLt_trans k1 h3)
    · have := key_tri h1 k1
      rw [this] at h3
      exact h2 h3
theorem slices_SortFunc_Key.calls {ok : Nat → Prop} {w0 : World} {F : Base} {x1 : List index_Key} {a0 : Option Addr} {n0 c0 : Nat} {r : List index_Key} (hf : slices_SortFunc_Key x1 = some r) (hs : St ok F w0 [] [own t_index_Key 23 (.slice a0 n0 c0) x1]) :
    Calls Try.prog 59 #[.slice a0 n0 c0, .func (.func 5) #[] #[]] w0 fun e w' => ∃ v, e = .returned v ∧ ∃ y : Unit, v = .tuple #[] ∧ St ok F w' [] [own t_index_Key 23 (.slice a0 n0 c0) r] :=
  sort_callsK (A := t_index_Key) lay_sortK (by decide) Try.isAgg23 Try.sizeOf23 keyCmp (swo_keys fun x => x) 5 (fun _ _ => by kernel_rfl)
    (fun ok W x y cs ds hx hy => by
      rw [keyR hx, keyR hy]
      exact index_Compare_gr x y W) hs hf
theorem entryR {ok : Nat → Prop} {w : World} {x : index_Entry} {cs : List Value} (h : t_index_Entry.R ok w x cs) : ∃ v, v.oneCell' = true ∧ cs = [.int .i64 x.Key.f_Type, .int .i64 x.Key.N, bstr x.Key.S, v] := by
  obtain ⟨c1, c2, rfl, h1, a, c, rfl, _⟩ := h
  rw [keyR h1]
  exact ⟨_, rfl, rfl⟩
theorem index_collect1_gr (x y : index_Key) (u v : Value) (hu : u.oneCell' = true) (hv : v.oneCell' = true) (Wd : World) : Calls Try.prog 45 #[.agg ([.int .i64 x.f_Type, .int .i64 x.N, bstr x.S, u] : List Value).toArray, .agg ([.int .i64 y.f_Type, .int .i64 y.N, bstr y.S, v] : List Value).toArray] Wd fun e w' => e = .returned (.int .i64 (keyCmp x y)) ∧ Gr Wd w' := by
  refine (calls_of_W (args := [.agg ([.int .i64 x.f_Type, .int .i64 x.N, bstr x.S, u] : List Value).toArray, .agg ([.int .i64 y.f_Type, .int .i64 y.N, bstr y.S, v] : List Value).toArray]) (R := fun v w' => v = .int .i64 (keyCmp x y) ∧ Gr Wd w') (fn := Try.f45) (N := 10) Try.func45 rfl Try.ntmps45 rfl ?_).mono (by rintro e w' ⟨v, rfl, rfl, h⟩; exact ⟨rfl, h⟩)
  refine W.seqK fun K1 hK1 => ?_
  refine W.region ?_
  refine WL.boxE (vs := [.int .i64 x.f_Type, .int .i64 x.N, bstr x.S, u]) rfl rfl ?_
  refine WL.boxE (vs := [.int .i64 y.f_Type, .int .i64 y.N, bstr y.S, v]) rfl rfl ?_
  refine WL.assign (v := .int .i64 0) rfl ?_
  refine WL.nil ?_
  refine hK1 _ _ ?_
  refine W.seqK fun K2 hK2 => ?_
  obtain ⟨g2, hg2⟩ : ∃ g, Wd.heap.size = g := ⟨_, rfl⟩
  have e3 : (Wd.alloc (.cells ([.int .i64 x.f_Type, .int .i64 x.N, bstr x.S, u] : List Value).toArray 72)).heap.size = g2 + 1 := by rw [size_alloc, hg2]
  have hb2 : ((Wd.alloc (.cells ([.int .i64 x.f_Type, .int .i64 x.N, bstr x.S, u] : List Value).toArray 72)).alloc (.cells ([.int .i64 y.f_Type, .int .i64 y.N, bstr y.S, v] : List Value).toArray 72)).heap[g2]? = some (.cells ([.int .i64 x.f_Type, .int .i64 x.N, bstr x.S, u] : List Value).toArray 72 (0, 0)) := by
    rw [Below.heap_alloc _ _ _ (by rw [e3]; omega), ← hg2]
    exact heap_new Wd _
  have hb3 : ((Wd.alloc (.cells ([.int .i64 x.f_Type, .int .i64 x.N, bstr x.S, u] : List Value).toArray 72)).alloc (.cells ([.int .i64 y.f_Type, .int .i64 y.N, bstr y.S, v] : List Value).toArray 72)).heap[g2 + 1]? = some (.cells ([.int .i64 y.f_Type, .int .i64 y.N, bstr y.S, v] : List Value).toArray 72 (0, 0)) := by
    rw [← e3]
    exact heap_new _ _
  have hG : Gr Wd ((Wd.alloc (.cells ([.int .i64 x.f_Type, .int .i64 x.N, bstr x.S, u] : List Value).toArray 72)).alloc (.cells ([.int .i64 y.f_Type, .int .i64 y.N, bstr y.S, v] : List Value).toArray 72)) := ((Gr.refl Wd).alloc _).alloc _
  rw [e3]
  rw [hg2]
  generalize (Wd.alloc (.cells ([.int .i64 x.f_Type, .int .i64 x.N, bstr x.S, u] : List Value).toArray 72)).alloc (.cells ([.int .i64 y.f_Type, .int .i64 y.N, bstr y.S, v] : List Value).toArray 72) = W1 at hb2 hb3 hG
  refine W.region ?_
  refine WL.fieldAddr (m := 0) rfl FA72_0 rfl ?_
  refine WL.loadNE (vs := [.int .i64 x.f_Type, .int .i64 x.N, bstr x.S]) hb2 TI23 rfl rfl rfl ?_
  refine WL.fieldAddr (m := 0) rfl FA72_0 rfl ?_
  refine WL.loadNE (vs := [.int .i64 y.f_Type, .int .i64 y.N, bstr y.S]) hb3 TI23 rfl rfl rfl ?_
  refine WL.callE (R := fun v w' => v = .int .i64 (keyCmp x y) ∧ Gr W1 w') (vs := [.agg ([.int .i64 x.f_Type, .int .i64 x.N, bstr x.S] : List Value).toArray, .agg ([.int .i64 y.f_Type, .int .i64 y.N, bstr y.S] : List Value).toArray]) FN5 ⟨rfl, rfl, trivial⟩ ((index_Compare_gr x y W1).mono (by rintro e w' ⟨rfl, h⟩; exact ⟨_, rfl, rfl, h⟩)) ?_
  rintro _ w ⟨rfl, hw⟩
  refine WL.assign (v := .int .i64 (keyCmp x y)) rfl ?_
  refine WL.nil ?_
  refine hK2 _ _ ?_
  refine W.ret ?_
  exact ⟨_, resOk_one rfl rfl, rfl, hG.trans hw⟩
theorem slices_SortFunc_Entry.calls {ok : Nat → Prop} {w0 : World} {F : Base} {x1 : List index_Entry} {a0 : Option Addr} {n0 c0 : Nat} {r : List index_Entry} (hf : slices_SortFunc_Entry x1 = some r) (hs : St ok F w0 [] [own t_index_Entry 72 (.slice a0 n0 c0) x1]) :
    Calls Try.prog 44 #[.slice a0 n0 c0, .func (.func 45) #[] #[]] w0 fun e w' => ∃ v, e = .returned v ∧ ∃ y : Unit, v = .tuple #[] ∧ St ok F w' [] [own t_index_Entry 72 (.slice a0 n0 c0) r] :=
  sort_callsK (A := t_index_Entry) lay_sortE (by decide) Try.isAgg72 Try.sizeOf72 (fun x y => keyCmp x.Key y.Key) (swo_keys index_Entry.Key) 45 (fun _ _ => by kernel_rfl)
    (fun ok W x y cs ds hx hy => by
      obtain ⟨u, hu, rfl⟩ := entryR hx
      obtain ⟨v, hv, rfl⟩ := entryR hy
      exact index_collect1_gr x.Key y.Key u v hu hv W) hs hf
attribute [local go_sem] Oper.semAt_some
set_option maxRecDepth 100000 in
set_option maxHeartbeats 4000000 in
theorem values1_in (F : Fence) (n : Nat) (hf1 : F.fn 49) (hro : F.round = none) (hn : 1 ≤ n) (l Bx b off cap n0 : Nat) (xs : List (List UInt8)) (hlen : xs.length ≤ 4611686018427387904) (hcap : xs.length ≤ cap) (hb0 : b < n0) (J Jx : List (List UInt8) → World → Prop)
    (hY : ∀ pre x W, J pre W → pre.length < xs.length → YieldAt F (n - 1) Try.prog l #[bstr x] W fun e W' =>
      (e = .returned (.bool true) ∧ J (pre ++ [x]) W' ∧ Below n0 W W') ∨ (e = .returned (.bool false) ∧ Jx (pre ++ [x]) W'))
    (W : World) (hBx : W.cell? ⟨Bx, 0, none⟩ = some (.slice (some ⟨b, off, none⟩) xs.length cap)) (hrow : ∀ j x, xs[j]? = some x → W.cell? ⟨b, off + j, none⟩ = some (bstr x)) (h0 : J [] W) :
    CallsIn F n Try.prog 49 #[.func (.yield l) #[] #[], .pointer (some ⟨Bx, 0, none⟩)] W fun e W' => (∃ v, e = .returned v) ∧ (J xs W' ∨ ∃ pre, Jx pre W') := by
  refine callsIn_of_wp Try.func49 rfl hf1 ?_ hro
  simp only [Try.ntmps49, List.size_toArray, List.length_cons, List.length_nil, Nat.reduceAdd, Nat.reduceSub, Array.replicate_succ, Array.replicate_zero, List.push_toArray, List.append_toArray, List.nil_append, List.cons_append]
  gi_wp2
  gi_loopw [7] (fun i wr => ∃ k, i = .int .i64 ((k : Nat) : Int) ∧ k ≤ xs.length ∧ J (xs.take k) wr ∧ Below n0 W wr)
    (fun i _ => xs.length - (intOf i).toNat)
  case atStart => exact ⟨0, rfl, Nat.zero_le _, h0, Below.refl _ _⟩
  case round =>
    obtain ⟨k, rfl, hk, hJs, hbl⟩ := hrel
    by_cases hlt : k < xs.length
    · have hx : xs[k]? = some xs[k] := List.getElem?_eq_getElem hlt
      have hc := (hbl.cell (p := ⟨b, off + k, none⟩) hb0).trans (hrow k _ hx)
      obtain ⟨fn, tmps, assign, body, hy, hR⟩ := hY _ xs[k] wr hJs (by rw [List.length_take]; omega)
      have ht : xs.take k ++ [xs[k]] = xs.take (k + 1) := by rw [List.take_add_one, hx]; rfl
      rw [ht] at hR
      gi_wp2
      refine hR.mono ?_
      rintro e W3 (⟨rfl, hJ3, hk3⟩ | ⟨rfl, hJx3⟩)
      · gi_wp2
        go_roundw
        case rel => exact ⟨k + 1, by simp, hlt, hJ3, hbl.trans hk3⟩
        case measure => simp [intOf]; omega
      · gi_wp2
        refine bodyPost_ret (results_none rfl _ _ _) rfl ?_
        exact ⟨⟨_, rfl⟩, .inr ⟨_, hJx3⟩⟩
    · gi_wp2
      go_end0
      have : xs.take k = xs := List.take_of_length_le (by omega)
      rw [this] at hJs
      exact ⟨⟨_, rfl⟩, .inl hJs⟩
set_option maxRecDepth 100000 in
set_option maxHeartbeats 1000000 in
theorem values0_in (F : Fence) (n : Nat) (hf1 : F.fn 49) (hro : F.round = none) (l Bx : Nat) (a : Option Addr) (cap : Nat) (J : World → Prop) (W : World) (hBx : W.cell? ⟨Bx, 0, none⟩ = some (.slice a 0 cap)) (h0 : J W) :
    CallsIn F n Try.prog 49 #[.func (.yield l) #[] #[], .pointer (some ⟨Bx, 0, none⟩)] W fun e W' => (∃ v, e = .returned v) ∧ J W' := by
  refine callsIn_of_wp Try.func49 rfl hf1 ?_ hro
  simp only [Try.ntmps49, List.size_toArray, List.length_cons, List.length_nil, Nat.reduceAdd, Nat.reduceSub, Array.replicate_succ, Array.replicate_zero, List.push_toArray, List.append_toArray, List.nil_append, List.cons_append]
  gi_wp2
  gi_loopw [7] (fun i wr => i = .int .i64 0 ∧ wr = W) (fun _ _ => 0)
  case atStart => exact ⟨rfl, rfl⟩
  case round =>
    obtain ⟨rfl, rfl⟩ := hrel
    gi_wp2
    go_end0
    exact ⟨⟨_, rfl⟩, h0⟩
structure AsI (w : World) (pre : List (List UInt8)) (W : World) : Prop where
  box : ∃ v, W.heap[w.heap.size]? = some (.cells #[v] 32 (0, 0)) ∧ W.ownsRow w.heap.size 9 1 v pre.length (pre.map bstr)
  below : Below w.heap.size w W
theorem own_ne56 {W : World} {base : Nat} {v : Value} {k : Nat} {xs : List Value} (h : W.ownsRow base 9 1 v k xs) {j : Nat} {c : Array Value} (hj : W.heap[j]? = some (.cells c 32 (0, 0))) : v.ownBlock = none ∨ v.ownBlock ≠ some j := by
  rcases h.2 with ⟨rfl, _⟩ | ⟨g, cap, cur, rfl, _, hgb, _⟩
  · exact .inl rfl
  · refine .inr fun e => ?_
    have : g = j := by simpa [Value.ownBlock] using e
    subst this
    rw [hgb] at hj
    cases hj
theorem own_neO {W : World} {base : Nat} {v : Value} {k : Nat} {xs : List Value} (h : W.ownsRow base 9 1 v k xs) {j : Nat} {o : Obj} (hj : W.heap[j]? = some o) (ho : o.isCells = false) : v.ownBlock = none ∨ v.ownBlock ≠ some j := by
  rcases h.2 with ⟨rfl, _⟩ | ⟨g, cap, cur, rfl, _, hgb, _⟩
  · exact .inl rfl
  · refine .inr fun e => ?_
    have : g = j := by simpa [Value.ownBlock] using e
    subst this
    rw [hgb] at hj
    cases hj
    cases ho
theorem AsI.own (w : World) (B : Nat) (hB : w.heap.size ≤ B) : OwnFrom B (AsI w) := by
  intro s W W' row h hg hr
  obtain ⟨v, hv, hrow⟩ := h.box
  refine ⟨⟨v, (hg.block _ (lt_of_some hv) ?_).trans hv, hrow.kept hg ?_⟩, h.below.grown hg h.below.size fun k e => Nat.le_trans hB (hr k e).1⟩
  · intro e
    obtain ⟨_, o, ho, hc⟩ := hr _ e.symm
    rw [hv] at ho
    cases ho
    cases hc
  · cases row with
    | none => cases hvb : v.ownBlock <;> simp
    | some r =>
      obtain ⟨_, o, ho, hc⟩ := hr r rfl
      exact own_neO hrow ho hc
set_option maxRecDepth 100000 in
set_option maxHeartbeats 4000000 in
theorem appendSeq_in (xs : List (List UInt8)) (a : Option Addr) (cap Bx : Nat) (w : World) (hlen : xs.length * 16 ≤ 140737488355328) (hcap : xs.length ≤ cap) (hBl : Bx < w.heap.size)
    (hBx : w.cell? ⟨Bx, 0, none⟩ = some (.slice a xs.length cap)) (hrow : xs = [] ∨ ∃ b off, a = some ⟨b, off, none⟩ ∧ b < w.heap.size ∧ ∀ j x, xs[j]? = some x → w.cell? ⟨b, off + j, none⟩ = some (bstr x)) :
    CallsIn Fence.wide 8 Try.prog 61 #[.slice none 0 0, .func (.func 49) #[] #[.pointer (some ⟨Bx, 0, none⟩)]] w fun e W' =>
      ∃ v, e = .returned v ∧ W'.ownsRow w.heap.size 9 1 v xs.length (xs.map bstr) ∧ Below w.heap.size w W' := by
  refine callsIn_of_wp_marks Try.func61 rfl trivial ?_ rfl
  simp only [Try.ntmps61, List.size_toArray, List.length_cons, List.length_nil, Nat.reduceAdd, Nat.reduceSub, Array.replicate_succ, Array.replicate_zero, List.push_toArray, List.append_toArray, List.nil_append, List.cons_append]
  gi_wp2
  obtain ⟨w4, hw4⟩ : ∃ w4, w.alloc (.cells #[.slice none 0 0] 32) = w4 := ⟨_, rfl⟩
  have hB0 : Below w.heap.size w w4 := by rw [← hw4]; exact (Below.refl _ w).alloc (Nat.le_refl _) _
  have hz4 : w4.heap.size = w.heap.size + 1 := by rw [← hw4]; simp
  have hv4 : w4.heap[w.heap.size]? = some (.cells #[.slice none 0 0] 32 (0, 0)) := by rw [← hw4]; exact World.alloc_heap_new w _
  rw [hw4]
  have hstops : SeqStopsK Fence.wide 7 Try.prog 49 #[.pointer (some ⟨Bx, 0, none⟩)] (fun x : List UInt8 => #[Value.string ⟨x.toArray⟩]) (Below w.heap.size) (fun ys => ys = xs) (fun _ => True) xs.length w4 := by
    intro l J Jx W hW hJ hJx hY h0
    have hcell : W.cell? ⟨Bx, 0, none⟩ = some (.slice a xs.length cap) := (hW.cell (p := ⟨Bx, 0, none⟩) (show Bx < w4.heap.size by omega)).trans ((hB0.cell (p := ⟨Bx, 0, none⟩) hBl).trans hBx)
    rcases hrow with hx0 | ⟨b, off, rfl, hb, hrow⟩
    · subst hx0
      refine (values0_in Fence.wide 7 trivial rfl l Bx a cap (J []) W hcell h0).mono ?_
      rintro e W' ⟨he, hj⟩
      exact ⟨he, .inl ⟨[], rfl, hj⟩⟩
    · refine (values1_in Fence.wide 7 trivial rfl (by omega) l Bx b off cap w.heap.size xs (by omega) hcap hb J Jx (fun pre x W hj hl => hY pre x W hj hl) W hcell (fun j x hj => (hW.cell (p := ⟨b, off + j, none⟩) (show b < w4.heap.size by omega)).trans ((hB0.cell (p := ⟨b, off + j, none⟩) hb).trans (hrow j x hj))) h0).mono ?_
      rintro e W' ⟨he, hj | ⟨pre, hj⟩⟩
      · exact ⟨he, .inl ⟨xs, rfl, hj⟩⟩
      · exact ⟨he, .inr ⟨pre, trivial, hj⟩⟩
  obtain ⟨i0, hi, hz0, hz1, hz2, _, _⟩ := EI.parts EI9
  refine wpIn_rangeFunc_ownF rfl (by omega) (gf := 49) (lb := #[.pointer (some ⟨Bx, 0, none⟩)]) rfl trivial (enters_of Try.func49 (by kernel_rfl) rfl)
    hstops (fun h k => h.trans k) (fun W l o o' hl ho h1 h2 => belowK_b (w := w) (Nat.le_refl _) W l o o' (by omega) ho h1 h2) (Below.refl _ _) (fun _ => rfl)
    (AsI w) (fun _ _ _ => False) (AsI.own w _ (by omega)) (fun _ _ _ _ _ h _ _ => h) ⟨⟨_, hv4, ⟨rfl, .inl ⟨rfl, rfl⟩⟩⟩, hB0⟩
    (fun x => { tmps := #[.slice none 0 0, .func (.func 49) #[] #[.pointer (some ⟨Bx, 0, none⟩)], .pointer (some ⟨w.heap.size, 0, none⟩), undef, .slice none 0 0, .string ⟨x.toArray⟩, .func (.func 49) #[] #[.pointer (some ⟨Bx, 0, none⟩)], .string ⟨x.toArray⟩, undef, undef, undef, undef, undef], defers := [] }) ?assign ?body ?done ?stop
  case assign =>
    intro l x W K hK
    gi_wp2
    exact hK
  case body =>
    rintro l pre x W ⟨⟨v, hv, hrow2⟩, hB⟩ hlt
    have hc2 : W.cell? ⟨w.heap.size, 0, none⟩ = some v := by simp [World.cell?, hv]
    have hf2 : W.frozen? ⟨w.heap.size, 0, none⟩ = false := by simp [World.frozen?, hv]
    gi_wp2_with (gi_at_builtin; refine wpListIn_append_own _ rfl _ _ 32 rfl w.heap.size 9 i0 (.string ⟨#[]⟩) 1 16 UN32 hi hz0 hz1 hz2 rfl (by decide) _ _ _ rfl (hrow2.alloc _) ⟨W.heap.size, 0, none⟩ 1 1 [.string ⟨x.toArray⟩] rfl rfl (cell_one_new _ _ _) (by simp [Value.oneCell']) (by unfold maxLen; omega) (by omega) (by have := hB.size; simp; omega) ?_; intro v' w3 hown' hg3 hnil3
                 have hv3 : w3.heap[w.heap.size]? = some (.cells #[v] 32 (0, 0)) := (hg3.block _ (by have := lt_of_some hv; simp; omega) (by show some _ ≠ v.ownBlock; rcases own_ne56 hrow2 hv with h | h; (· rw [h]; simp); exact fun e => h e.symm)).trans ((Below.heap_alloc _ _ _ (lt_of_some hv)).trans hv)
                 have hc3 : w3.cell? ⟨w.heap.size, 0, none⟩ = some v := by simp [World.cell?, hv3]
                 have hf3 : w3.frozen? ⟨w.heap.size, 0, none⟩ = false := by simp [World.frozen?, hv3]
                 obtain ⟨g', cap', cur', rfl, hbase', hgb', hr1, hr2, hr3, hr4⟩ : ∃ g' cap' cur', v' = .slice (some ⟨g', 0, none⟩) (pre.length + 1) cap' ∧ w.heap.size ≤ g' ∧ w3.heap[g']? = some (.cells cur' 9 (0, 0)) ∧ pre.length + 1 ≤ cap' ∧ cap' ≤ maxLen ∧ cur'.size = cap' * 1 ∧ cur'.toList.take ((pre.length + 1) * 1) = pre.map bstr ++ [.string ⟨x.toArray⟩] := by
                   rcases hown'.2 with ⟨_, h0⟩ | h'
                   · exact absurd h0 (by omega)
                   · exact h'
                 go_frame)
    have hg4 : (W.alloc (.cells #[.string ⟨x.toArray⟩] 9)).grownBy w3 v.ownBlock := hg3
    have hoff := Off.setCell w3 w.heap.size 0 (.slice (some ⟨g', 0, none⟩) (pre.length + 1) cap')
    have hg5 : w3.grownBy (w3.setCell ⟨w.heap.size, 0, none⟩ (.slice (some ⟨g', 0, none⟩) (pre.length + 1) cap')) (some w.heap.size) := ⟨rfl, rfl, rfl, hoff.size, fun k hk hne => hoff.block k hk (by
      simp only [List.mem_singleton]
      rintro rfl
      exact hne rfl)⟩
    have hlow : ∀ k, v.ownBlock = some k → w.heap.size ≤ k := fun k e => (hrow2.lt k e).1
    have hkb : ∀ (W0 : World), Below w.heap.size W0 W → Below w.heap.size W0 (w3.setCell ⟨w.heap.size, 0, none⟩ (.slice (some ⟨g', 0, none⟩) (pre.length + 1) cap')) := fun W0 h =>
      (((h.alloc hB.size _).grown hg4 (by have := hB.size; simp; omega) hlow).setCell (p := ⟨w.heap.size, 0, none⟩) (Nat.le_refl _) _)
    refine ⟨(KeepsOthers.alloc _ _).trans ((KeepsOthers.of_grownBy hg4 fun j o hj ho => ?_).trans (KeepsOthers.setCell _ _ _)), hkb W (Below.refl _ W), ⟨⟨_, heap_set (cs := [v]) (j := 0) hv3 _, ?_⟩, hkb w hB⟩⟩
    · rcases hrow2.2 with ⟨rfl, _⟩ | ⟨g, cp, cu, rfl, _, hgb, _⟩
      · cases hj
      · have e : g = j := by simpa [Value.ownBlock] using hj
        subst e
        rw [Below.heap_alloc _ _ _ (lt_of_some hgb), hgb] at ho
        cases ho
        rfl
    · have e1 : (pre ++ [x]).length = pre.length + 1 := by simp
      have e2 : (pre ++ [x]).map bstr = pre.map bstr ++ [.string ⟨x.toArray⟩] := by simp [bstr]
      rw [e1, e2]
      exact hown'.kept hg5 (own_ne56 hown' hv3)
  case done =>
    rintro D ys W hD rfl ⟨⟨v, hv, hrow2⟩, hB⟩ hK
    have hc2 : W.cell? ⟨w.heap.size, 0, none⟩ = some v := by simp [World.cell?, hv]
    gi_wp2
    refine ⟨by simp, .inl ⟨_, _, rfl, run_takeDeferred hK, ?_⟩⟩
    have hne := own_neO hrow2 hK rfl
    exact ⟨_, results_tmp rfl _ _ _, v, rfl, hrow2.kept (grownBy_putObj' W D (.deferred none)) hne, hB.trans (belowK_b (w := w) (Nat.le_refl _) W D _ _ (by omega) hK rfl rfl)⟩
  case stop =>
    rintro D k pre W hD _ h _
    exact h.elim
theorem collect_vals (xs : List (List UInt8)) (a : Option Addr) (cap Bx : Nat) (w : World) (hlen : xs.length * 16 ≤ 140737488355328) (hcap : xs.length ≤ cap) (hBl : Bx < w.heap.size)
    (hBx : w.cell? ⟨Bx, 0, none⟩ = some (.slice a xs.length cap)) (hrow : xs = [] ∨ ∃ b off, a = some ⟨b, off, none⟩ ∧ b < w.heap.size ∧ ∀ j x, xs[j]? = some x → w.cell? ⟨b, off + j, none⟩ = some (bstr x)) :
    Calls Try.prog 47 #[.func (.func 49) #[] #[.pointer (some ⟨Bx, 0, none⟩)]] w fun e w' => ∃ v, e = .returned v ∧ w'.ownsRow w.heap.size 9 1 v xs.length (xs.map bstr) ∧ Below w.heap.size w w' := by
  refine calls_of_W (args := [.func (.func 49) #[] #[.pointer (some ⟨Bx, 0, none⟩)]]) (fn := Try.f47) (N := 5) Try.func47 rfl Try.ntmps47 rfl ?_
  refine W.seqK fun K1 hK1 => ?_
  refine W.region ?_
  refine WL.assign (v := .slice none 0 0) rfl ?_
  refine WL.nil ?_
  refine hK1 _ _ ?_
  refine W.seqK fun K2 hK2 => ?_
  refine W.region ?_
  refine WL.move (v := .func (.func 49) #[] #[.pointer (some ⟨Bx, 0, none⟩)]) rfl ?_
  refine WL.callE (vs := [.slice none 0 0, .func (.func 49) #[] #[.pointer (some ⟨Bx, 0, none⟩)]]) FN61 ⟨rfl, rfl, trivial⟩ (callsIn_wide.1 (appendSeq_in xs a cap Bx w hlen hcap hBl hBx hrow)) ?_
  rintro v w' hR
  refine WL.assign (v := v) rfl ?_
  refine WL.nil ?_
  refine hK2 _ _ ?_
  refine W.ret ?_
  exact ⟨_, resOk_one rfl rfl, hR⟩
theorem sorted_vals (xs : List (List UInt8)) (a : Option Addr) (cap Bx : Nat) (w : World) (hlen : xs.length * 16 ≤ 140737488355328) (hcap : xs.length ≤ cap) (hBl : Bx < w.heap.size)
    (hBx : w.cell? ⟨Bx, 0, none⟩ = some (.slice a xs.length cap)) (hrow : xs = [] ∨ ∃ b off, a = some ⟨b, off, none⟩ ∧ b < w.heap.size ∧ ∀ j x, xs[j]? = some x → w.cell? ⟨b, off + j, none⟩ = some (bstr x)) :
    Calls Try.prog 33 #[.func (.func 49) #[] #[.pointer (some ⟨Bx, 0, none⟩)]] w fun e w' => ∃ v, e = .returned v ∧ w'.ownsRow w.heap.size 9 1 v xs.length ((xs.mergeSort fun a b => decide (a ≤ b)).map bstr) ∧ Below w.heap.size w w' := by
  refine calls_of_W (args := [.func (.func 49) #[] #[.pointer (some ⟨Bx, 0, none⟩)]]) (fn := Try.f33) (N := 9) Try.func33 rfl Try.ntmps33 rfl ?_
  refine W.seqK fun K1 hK1 => ?_
  refine W.region ?_
  refine WL.assign (v := .slice none 0 0) rfl ?_
  refine WL.nil ?_
  refine hK1 _ _ ?_
  refine W.seqK fun K2 hK2 => ?_
  refine W.region ?_
  refine WL.move (v := .func (.func 49) #[] #[.pointer (some ⟨Bx, 0, none⟩)]) rfl ?_
  refine WL.callE (vs := [.func (.func 49) #[] #[.pointer (some ⟨Bx, 0, none⟩)]]) FN47 ⟨rfl, trivial⟩ (collect_vals xs a cap Bx w hlen hcap hBl hBx hrow) ?_
  rintro v w1 ⟨hown, hB⟩
  refine WL.assign (v := v) rfl ?_
  refine WL.nil ?_
  refine hK2 _ _ ?_
  refine W.seqK fun K3 hK3 => ?_
  refine W.region ?_
  refine WL.move (v := v) rfl ?_
  have hsort : Calls Try.prog 48 #[v] w1 fun e w' => ∃ u, e = .returned u ∧ w'.ownsRow w.heap.size 9 1 v xs.length ((xs.mergeSort fun a b => decide (a ≤ b)).map bstr) ∧ Below w.heap.size w w' := by
    rcases hown.2 with ⟨rfl, hz⟩ | ⟨gb, cp, cur, rfl, hbase, hgb, r1, r2, r3, r4⟩
    · have hx0 : xs = [] := List.length_eq_zero_iff.1 hz
      subst hx0
      refine (Go.Proofs.AnyM.slices_Sort_string_none lay_sort none 0 w1).mono ?_
      rintro e w' ⟨rfl, rfl⟩
      exact ⟨_, rfl, by simpa using hown, hB⟩
    · have hH : Go.Sort.Holds encStr w1 gb 0 xs.toArray := Go.holds_of_block hgb (by have h9 := r4; rw [Nat.mul_one] at h9; exact h9)
      refine (Go.Proofs.AnyM.slices_Sort_string lay_sort gb 0 cp xs w1 hH (lt_of_some hgb) (by omega)).mono ?_
      rintro e w' ⟨rfl, k, os, rfl⟩
      have h9 := Go.ownsRow_sorted (n := k) (os := os) (ss := xs) (ts := xs.mergeSort fun a b => decide (a ≤ b)) (by simp) hbase hgb r1 r2 r3
      exact ⟨_, rfl, h9, hB.grown (Go.grownBy_sorted _) hB.size (fun j hj => by cases hj; exact hbase)⟩
  refine WL.callE (vs := [v]) FN48 ⟨rfl, trivial⟩ hsort ?_
  rintro u w2 hR
  refine WL.nil ?_
  refine hK3 _ _ ?_
  refine W.seqK fun K4 hK4 => ?_
  refine W.region ?_
  refine WL.move (v := v) rfl ?_
  refine WL.assign (v := v) rfl ?_
  refine WL.nil ?_
  refine hK4 _ _ ?_
  refine W.ret ?_
  exact ⟨_, resOk_one rfl rfl, hR⟩
theorem values_gr (v : Value) (hv : v.cells = [v].toArray) (w : World) : Calls Try.prog 34 #[v] w fun e w' => ∃ u, e = .returned u ∧ u = .func (.func 49) #[] #[.pointer (some ⟨w.heap.size, 0, none⟩)] ∧ w' = w.alloc (.cells [v].toArray 32) := by
  refine calls_of_W (args := [v]) (fn := Try.f34) (N := 4) Try.func34 rfl Try.ntmps34 rfl ?_
  refine W.seqK fun K1 hK1 => ?_
  refine W.region ?_
  refine WL.boxE (vs := [v]) rfl hv ?_
  refine WL.assign (v := _) rfl ?_
  refine WL.nil ?_
  refine hK1 _ _ ?_
  refine W.seqK fun K2 hK2 => ?_
  refine W.region ?_
  refine WL.makeFunc (vs := [.pointer (some ⟨w.heap.size, 0, none⟩)]) ⟨rfl, trivial⟩ ?_
  refine WL.assign (v := .func (.func 49) #[] #[.pointer (some ⟨w.heap.size, 0, none⟩)]) rfl ?_
  refine WL.nil ?_
  refine hK2 _ _ ?_
  refine W.ret ?_
  exact ⟨_, resOk_one rfl rfl, rfl, rfl⟩
theorem index_ascending.calls {ok : Nat → Prop} {w0 : World} {x1 : List (List UInt8)} {a2 : Option Addr} {c3 : Nat} {r : List (List UInt8)} (hf : index_ascending x1 = some r) (i0 : (vl (tSlice tStr) x1 (.slice a2 x1.length c3)).holds ok w0) :
    Calls Try.prog 20 #[.slice a2 x1.length c3] w0 fun e w' => ∃ v, e = .returned v ∧ ∃ y : (Option Addr × Nat × Nat), v = .slice y.1 y.2.1 y.2.2 ∧ St ok (bz w0) w' [] [own tStr 9 (.slice y.1 y.2.1 y.2.2) r] := by
  unfold index_ascending at hf
  obtain ⟨hlen, hf⟩ := guardE hf
  refine calls_of_W (args := [.slice a2 x1.length c3]) (fn := Try.f20) (N := 7) Try.func20 rfl Try.ntmps20 rfl ?_
  have hs : St ok (bz w0) w0 [vl (tSlice tStr) x1 (.slice a2 x1.length c3)] [] := St.init (All.cons i0 All.nil)
  obtain ⟨a', c', he, hcap, hr⟩ := tSlice_V.1 (show (tSlice tStr).V ok w0 x1 (.slice a2 x1.length c3) from i0)
  cases he
  have hrow : ∀ w', Below w0.heap.size w0 w' → (x1 = [] ∨ ∃ b off, a2 = some ⟨b, off, none⟩ ∧ b < w'.heap.size ∧ ∀ j x, x1[j]? = some x → w'.cell? ⟨b, off + j, none⟩ = some (bstr x)) := by
    intro w' hb
    rcases hr with h | ⟨g, off, e, _, hlt, hc⟩
    · exact .inl h
    · refine .inr ⟨g, off, e, Nat.lt_of_lt_of_le hlt hb.size, fun j x hj => ?_⟩
      obtain ⟨cs, hcs, hcell⟩ := hc j x hj
      have hcs : cs = [bstr x] := hcs
      subst hcs
      have := hcell 0 (bstr x) rfl
      have e1 : off + j * tStr.sz + 0 = off + j := by show off + j * 1 + 0 = _; omega
      rw [e1] at this
      exact (hb.cell (p := ⟨g, off + j, none⟩) hlt).trans this
  refine W.seqK fun K1 hK1 => ?_
  refine W.region ?_
  refine WL.assign (v := .slice none 0 0) rfl ?_
  refine WL.nil ?_
  refine hK1 _ _ ?_
  refine W.seqK fun K2 hK2 => ?_
  refine W.region ?_
  refine WL.move (v := .slice a2 x1.length c3) rfl ?_
  refine WL.callE (vs := [.slice a2 x1.length c3]) FN34 ⟨rfl, trivial⟩ (values_gr _ rfl w0) ?_
  rintro u w1 ⟨rfl, rfl⟩
  have hb1 : Below w0.heap.size w0 (w0.alloc (.cells [Value.slice a2 x1.length c3].toArray 32)) := below_alloc w0 _
  have hs1 := hs.below hb1
  have hz1 := size_alloc w0 (.cells [Value.slice a2 x1.length c3].toArray 32)
  have hc1 : (w0.alloc (.cells [Value.slice a2 x1.length c3].toArray 32)).cell? ⟨w0.heap.size, 0, none⟩ = some (.slice a2 x1.length c3) := blk_cell (heap_new w0 _) 0
  refine WL.callE (vs := [.func (.func 49) #[] #[.pointer (some ⟨w0.heap.size, 0, none⟩)]]) FN33 ⟨rfl, trivial⟩ (sorted_vals x1 a2 c3 w0.heap.size _ hlen hcap (by rw [hz1]; omega) hc1 (hrow _ hb1)) ?_
  rintro v w2 ⟨hown, hB⟩
  have hl : (x1.mergeSort fun a b => decide (a ≤ b)).length = x1.length := by simp
  have hs2 := hs1.ownNew (xs := x1.mergeSort fun a b => decide (a ≤ b)) hB (by rw [hl]; exact hown)
  obtain ⟨a4, n4, c4, rfl⟩ := hs2.ownv3 0 rfl
  have hs2 := hs2.pick []
  refine WL.callO (vs := [.slice a4 n4 c4]) [own tStr 9 (.slice a4 n4 c4) (x1.mergeSort fun a b => decide (a ≤ b))] (Λb := []) hs2 FN32 ⟨rfl, trivial⟩ (fun ok F hs => slices_Compact_string.calls hf hs) ?_
  rintro ⟨a5, n5, c5⟩ w3 hs3
  refine WL.assign (v := .slice a5 n5 c5) rfl ?_
  refine WL.nil ?_
  refine hK2 _ _ ?_
  refine W.ret ?_
  exact ⟨_, resOk_one rfl rfl, (a5, n5, c5), rfl, hs3⟩
theorem kv_key_inj {a b : index_Key} (h : kv_index_Key a = kv_index_Key b) : a = b := by
  obtain ⟨t, n, s⟩ := a
  obtain ⟨t', n', s'⟩ := b
  injection h with h
  have h := congrArg Array.toList h
  simp only [List.cons.injEq, and_true] at h
  obtain ⟨h1, h2, h3⟩ := h
  injection h1 with _ h1
  injection h2 with _ h2
  rw [h1, h2, bstr_inj h3]
theorem key_beq (a b : index_Key) : (a.f_Type == b.f_Type && (a.N == b.N && (a.S == b.S && true))) = (a == b) := by
  obtain ⟨t, n, s⟩ := a
  obtain ⟨t', n', s'⟩ := b
  rw [Bool.eq_iff_iff]
  simp
theorem ks_key : KS Try.prog 23 kv_index_Key where
  und := ⟨_, Try.underlying23, fun a b => rfl⟩
  eql := fun a b w => by
    rw [← key_beq]
    exact EqR.agg Try.underlying23 (by kernel_rfl) (EqL.cons (by decide) (u := .int .i64 a.f_Type) (v := .int .i64 b.f_Type) (fun _ => by kernel_rfl) (fun _ => by kernel_rfl) (EqR.int a.f_Type b.f_Type Try.underlying3)
      (EqL.cons (by decide) (u := .int .i64 a.N) (v := .int .i64 b.N) (fun _ => by kernel_rfl) (fun _ => by kernel_rfl) (EqR.int a.N b.N Try.underlying2)
        (EqL.cons (by decide) (u := bstr a.S) (v := bstr b.S) (fun _ => by kernel_rfl) (fun _ => by kernel_rfl) (EqR.str a.S b.S Try.underlying9) EqL.nil))) w
  bits := fun a => by simp [Instr.sameBits, bstr, beqB]
  chk := fun e a w => by kernel_rfl
abbrev grpK (t : Option (index_Key × Value × List index_pair)) (g : Nat) (x : List (index_Key × List index_pair)) : LObj := grpo kv_index_Key t_index_pair 95 kv_key_inj t g x
theorem index_groupBy.calls {ok : Nat → Prop} {w0 : World} {x1 : List index_pair} {a2 : Option Addr} {c3 : Nat} {r : List (index_Key × List index_pair)} (hf : index_groupBy x1 = some r) (i0 : (vl (tSlice t_index_pair) x1 (.slice a2 x1.length c3)).holds ok w0) :
    Calls Try.prog 42 #[.slice a2 x1.length c3, .func (.func 43) #[] #[]] w0 fun e w' => ∃ v, e = .returned v ∧ ∃ y : Nat, v = .map (some y) ∧ St ok (bz w0) w' [] [mapo kv_index_Key (tSlice t_index_pair) y r] := by
  unfold index_groupBy at hf
  refine calls_of_W (args := [.slice a2 x1.length c3, .func (.func 43) #[] #[]]) (fn := Try.f42) (N := 29) Try.func42 rfl Try.ntmps42 rfl ?_
  have hs : St ok (bz w0) w0 [vl (tSlice t_index_pair) x1 (.slice a2 x1.length c3)] [] := St.init (All.cons i0 All.nil)
  clear i0
  refine W.seqK fun K1 hK1 => ?_
  refine W.region ?_
  refine WL.assign (v := .map none) rfl ?_
  refine WL.nil ?_
  refine hK1 _ _ ?_
  refine W.seqK fun K2 hK2 => ?_
  refine W.region ?_
  refine WL.makeMap kv_index_Key tCell hs (fun g w hs => ?_)
  have hs : St ok (bz w0) w [vl (tSlice t_index_pair) x1 (.slice a2 x1.length c3)] [grpK none g []] := hs.grpNew
  refine WL.assign (v := .map (some g)) rfl ?_
  refine WL.nil ?_
  refine hK2 _ _ ?_
  refine W.seqK fun K3 hK3 => ?_
  have Jend : ∀ (gs : List (index_Key × List index_pair)) (ρ : Env) (w : World), ρ 5 = .map (some g) → St ok (bz w0) w [vl (tSlice t_index_pair) x1 (.slice a2 x1.length c3)] [grpK none g gs] → gs = r → K3 ρ w := by
    intro gs ρ w h5 hs hgs
    subst hgs
    refine hK3 _ _ ?_
    refine W.seqK fun K4 hK4 => ?_
    refine W.region ?_
    refine WL.move (v := .map (some g)) h5 ?_
    refine WL.assign (v := .map (some g)) rfl ?_
    refine WL.nil ?_
    refine hK4 _ _ ?_
    refine W.ret ?_
    exact ⟨_, resOk_one rfl rfl, g, rfl, (St.grpDone hs).pick []⟩
  refine W.seqK fun K5 hK5 => ?_
  refine W.region ?_
  refine WL.move (v := .slice a2 x1.length c3) rfl ?_
  refine WL.len (v := .slice a2 x1.length c3) rfl (len_slice UN69) ?_
  refine WL.move (v := .int .i64 0) rfl ?_
  refine WL.nil ?_
  refine hK5 _ _ ?_
  refine W.block ?_
  refine W.loop hf (fun s ρ w => match s with | (i, gs) => ρ 1 = .func (.func 43) #[] #[] ∧ ρ 5 = .map (some g) ∧ ρ 9 = .slice a2 x1.length c3 ∧ ρ 10 = .int .i64 (x1.length : Int) ∧ ρ 11 = .int .i64 i ∧ St ok (bz w0) w [vl (tSlice t_index_pair) x1 (.slice a2 x1.length c3)] [grpK none g gs]) ⟨rfl, rfl, rfl, rfl, rfl, hs⟩ ?_
  intro s ρ w o hI hf hbb
  obtain ⟨i, gs⟩ := s
  obtain ⟨h1, h5, h9, h10, h11, hs⟩ := hI
  unfold index_groupBy.l1 at hf
  refine W.seqK fun K6 hK6 => ?_
  refine W.region ?_
  refine WL.bin (v := .bool (decide (i < (x1.length : Int)))) h11 h10 (ib_lss _ _ _) ?_
  refine WL.nil ?_
  refine hK6 _ _ ?_
  refine W.seqK fun K7 hK7 => ?_
  rcases iteE hf with ⟨hc, hf⟩ | ⟨hc, hf⟩
  · refine W.cond_true (bool_tr rfl hc) ?_
    refine W.skip ?_
    refine hK7 _ _ ?_
    obtain ⟨p, hp0, hf⟩ := bindE hf
    obtain ⟨k, hk, hf⟩ := bindE hf
    obtain ⟨l, hl, hf⟩ := bindE hf
    obtain ⟨hb, hle⟩ := appE hl
    refine W.seqK fun K8 hK8 => ?_
    refine W.block ?_
    refine W.seqK fun K9 hK9 => ?_
    refine W.region ?_
    refine WL.indexAddr hs 0 rfl UN69 TI95 h9 h11 hp0 (fun ad hs => ?_)
    refine WL.loadP hs 0 rfl TI95 (.inl rfl) rfl (fun v hs => ?_)
    obtain ⟨cs, hlc, rfl⟩ := hs.aggv (n := 4) 0 rfl rfl rfl
    refine WL.alloc hs ZV95 (fun g7 w hs => ?_)
    refine WL.storeAll (vs := cs) hs 0 rfl TI95 rfl rfl rfl hlc (hs.ones 0 rfl rfl) rfl (fun w hs => ?_)
    refine WL.nil ?_
    refine hK9 _ _ ?_
    have hs := (hs.front 1 rfl).pick [0, 2]
    have hs : St ok (bz w0) w [vl t_index_pair p (.agg cs.toArray), vl (tSlice t_index_pair) x1 (.slice a2 x1.length c3)] [grpK none g gs, blk g7 95 cs] := hs
    have hones := hs.ones 0 rfl rfl
    refine W.anyT (by kernel_rfl) 12 1 [true, true, true, true, true, true, true, true, true, true, true, true, false] rfl rfl
      (poAt [pv (.map (some g)), pv (.func (.func 43) #[] #[]), pv (.agg cs.toArray), pv (kv_index_Key k), pv (.map (some g)), pv (.func (.func 43) #[] #[]), pv (.agg cs.toArray), pv (kv_index_Key k),
        ⟨fun _ _ => True, fun _ => [], fun v => [grpK (some (k, v, (gs.lookup k).getD [])) g gs], [grpK none g gs], []⟩, pv (.agg cs.toArray), pq (fun y : Option Addr => .slice y 1 1) (fun v => [vl (tSlice t_index_pair) [p] v]) (fun v => []),
        ⟨fun _ _ => True, fun _ => [], fun v => [grpK (some (k, v, l)) g gs], [], []⟩])
      (tkAt [[], [], [], [], [], [], [], [], [], [], [], [8]]) (Λ := [blk g7 95 cs]) hs (by kernel_rfl) (by kernel_rfl) (by kernel_rfl) (by kernel_rfl)
      ⟨⟨⟨⟨⟨⟨⟨⟨⟨⟨⟨⟨trivial, ?_⟩, ?_⟩, ?_⟩, ?_⟩, ?_⟩, ?_⟩, ?_⟩, ?_⟩, ?_⟩, ?_⟩, ?_⟩, ?_⟩ ?_
    · intro ρ' w Γx Λx hs hu hp
      refine WL.move (v := .map (some g)) ((hu 5 rfl).trans h5) ?_
      exact WL.nil ⟨rfl, _, rfl, rfl, hs.cutG 0 0⟩
    · intro ρ' w Γx Λx hs hu hp
      refine WL.move (v := .func (.func 43) #[] #[]) ((hu 1 rfl).trans h1) ?_
      exact WL.nil ⟨rfl, _, rfl, rfl, hs.cutG 0 0⟩
    · intro ρ' w Γx Λx hs hu hp
      refine WL.loadAll hs (Λx.length + 0) (getApp rfl) TI95 ((hu 7 rfl).trans rfl) hlc ?_
      exact WL.nil ⟨rfl, _, rfl, rfl, hs.cutG 0 0⟩
    · intro ρ' w Γx Λx hs hu hp
      obtain ⟨okc, hA, hput⟩ := hs.call
      have e1 : ρ' 16 = .func (.func 43) #[] #[] := (hp 1 rfl).1
      have e2 : ρ' 17 = .agg cs.toArray := (hp 2 rfl).1
      refine WL.callT (fo := .tmp 16) (vs := [.agg cs.toArray]) e1 FN43 ⟨e2, trivial⟩ (index_pair_group.calls hk (hA.get (Γx.length + 0) (getApp rfl))) ?_
      rintro v w' ⟨y, rfl, hs'⟩
      have hs := hput _ _ _ hs'
      obtain rfl := open_index_Key hs 0 rfl
      exact WL.nil ⟨rfl, _, rfl, rfl, hs.cutG 0 1⟩
    · intro ρ' w Γx Λx hs hu hp
      refine WL.move (v := .map (some g)) ((hu 5 rfl).trans h5) ?_
      exact WL.nil ⟨rfl, _, rfl, rfl, hs.cutG 0 0⟩
    · intro ρ' w Γx Λx hs hu hp
      refine WL.move (v := .func (.func 43) #[] #[]) ((hu 1 rfl).trans h1) ?_
      exact WL.nil ⟨rfl, _, rfl, rfl, hs.cutG 0 0⟩
    · intro ρ' w Γx Λx hs hu hp
      refine WL.loadAll hs (Λx.length + 0) (getApp rfl) TI95 ((hu 7 rfl).trans rfl) hlc ?_
      exact WL.nil ⟨rfl, _, rfl, rfl, hs.cutG 0 0⟩
    · intro ρ' w Γx Λx hs hu hp
      obtain ⟨okc, hA, hput⟩ := hs.call
      have e1 : ρ' 20 = .func (.func 43) #[] #[] := (hp 5 rfl).1
      have e2 : ρ' 21 = .agg cs.toArray := (hp 6 rfl).1
      refine WL.callT (fo := .tmp 20) (vs := [.agg cs.toArray]) e1 FN43 ⟨e2, trivial⟩ (index_pair_group.calls hk (hA.get (Γx.length + 0) (getApp rfl))) ?_
      rintro v w' ⟨y, rfl, hs'⟩
      have hs := hput _ _ _ hs'
      obtain rfl := open_index_Key hs 0 rfl
      exact WL.nil ⟨rfl, _, rfl, rfl, hs.cutG 0 1⟩
    · intro ρ' w Γx Λx hs hu hp
      have e1 : ρ' 19 = .map (some g) := (hp 4 rfl).1
      have e2 : ρ' 22 = kv_index_Key k := (hp 7 rfl).1
      have hs : St ok (bz w0) w (Γx ++ [vl t_index_pair p (.agg cs.toArray), vl (tSlice t_index_pair) x1 (.slice a2 x1.length c3)]) (Λx ++ ([grpK none g gs] ++ [blk g7 95 cs])) := hs
      refine WL.grpLook (k := k) hs.backR ks_key UN92 e1 e2 ZR69 (fun v hs => ?_)
      exact WL.nil ⟨rfl, _, rfl, trivial, hs.cutG 0 0⟩
    · intro ρ' w Γx Λx hs hu hp
      refine WL.loadAll hs (Λx.length + 0) (getApp rfl) TI95 ((hu 7 rfl).trans rfl) hlc ?_
      exact WL.nil ⟨rfl, _, rfl, rfl, hs.cutG 0 0⟩
    · intro ρ' w Γx Λx hs hu hp
      have e1 : ρ' 24 = .agg cs.toArray := (hp 9 rfl).1
      refine WL.buildSliceB (A := t_index_pair) (ys := [p]) (n := 1) (vs := [(0, .agg cs.toArray)]) (cs := cs) hs ⟨⟨rfl, e1⟩, trivial⟩ (bls PS69 (by decide) (by simp [fillS, fillL, Value.cells, hlc])) (fun ok hA => Cells.one (R_agg (hA.get (Γx.length + 0) (getApp rfl)) rfl)) rfl (by decide) (fun a w' hBl hs => ?_)
      exact WL.nil ⟨rfl, _, rfl, ⟨a, rfl⟩, hs.cutG 1 0⟩
    · intro ρ' w Γx Λx hs hu hp
      have hs : St ok (bz w0) w (Γx ++ [vl t_index_pair p (.agg cs.toArray), vl (tSlice t_index_pair) x1 (.slice a2 x1.length c3)]) (Λx ++ ([grpK (some (k, ρ' 23, (gs.lookup k).getD [])) g gs] ++ [blk g7 95 cs])) := hs
      obtain ⟨⟨a, ha⟩, hm⟩ := hp 10 rfl
      have ha : ρ' 25 = .slice a 1 1 := ha
      have hm : vl (tSlice t_index_pair) [p] (ρ' 25) ∈ Γx := hm _ (List.mem_cons_self ..)
      rw [ha] at hm
      have hs := hs.memo1 (List.mem_append.2 (.inl hm))
      refine WL.grpApp (zs := [p]) (us := l) hs.backR 0 rfl UN69 EI95 rfl ha hb (by simp only [List.length_cons, List.length_nil] at *; omega) hle (fun v' w' hs => ?_)
      exact WL.nil ⟨rfl, _, rfl, trivial, hs.cutG 0 1⟩
    · intro ρ' w hs hu hp
      have hs : St ok (bz w0) w [vl (tSlice t_index_pair) [p] (ρ' 25), vl t_index_pair p (.agg cs.toArray), vl (tSlice t_index_pair) x1 (.slice a2 x1.length c3)] [grpK (some (k, ρ' 26, l)) g gs, blk g7 95 cs] := hs
      have e15 : ρ' 15 = .map (some g) := hp.at_ 0 (by decide)
      have e18 : ρ' 18 = kv_index_Key k := hp.at_ 3 (by decide)
      refine WA.step [12] (by kernel_rfl) (by simp) ⟨?_, trivial⟩
      refine WL.grpPut (k := k) (ys := l) hs ks_key UN92 e15 e18 rfl (fun w' hs => ?_)
      refine WL.nil ⟨rfl, _, rfl, ?_⟩
      refine WA.done (by kernel_rfl) ?_
      refine hK8 _ _ ?_
      refine W.region ?_
      obtain ⟨j, ej, hf⟩ := letE hf
      refine WL.bin (v := .int .i64 j) ((hu 11 rfl).trans h11) rfl (ib_as ej (ib_add _ _ _)) ?_
      refine WL.move (v := .int .i64 j) rfl ?_
      refine WL.nil ?_
      exact ⟨_, (Option.some.inj hf).symm, (hu 1 rfl).trans h1, (hu 5 rfl).trans h5, (hu 9 rfl).trans h9, (hu 10 rfl).trans h10, rfl, (hs.mask [true]).pick [2]⟩
  · refine W.cond_false (bool_tr rfl hc) ?_
    refine W.exit ?_
    have hr := Option.some.inj hf
    subst hr
    exact Jend gs _ _ h5 hs (hbb _ rfl)
end Go.Proofs.Ytpfgdjfiimknlaa
set_option linter.unusedVariables false
set_option linter.unusedSimpArgs false
namespace Go.Proofs.Ytpfgdjfiimknlaa
open Go Go.RowKit Go.Proofs.YtpfgdjfiimknlaaL
set_option maxRecDepth 100000
set_option maxHeartbeats 4000000
theorem fold_FieldOf.calls {ok : Nat → Prop} {w0 : World} {x1 : fold_Object} {x5 : List UInt8} {v2 : Value} {r : fold_Field} (hf : fold_FieldOf x1 x5 = some r) (i0 : (vl t_fold_Object x1 v2).holds ok w0) :
    Calls Try.prog 58 #[v2, bstr x5] w0 fun e w' => ∃ v, e = .returned v ∧ ∃ y : (Option Addr × Nat × Nat), v = .agg ([bstr r.Name, .bool r.Register.Set, .int .i64 r.Register.Tag, .int .i64 r.Register.Client, .int .i64 r.Register.Seq, .int .i64 r.Register.N, bstr r.Register.S, .bool r.HasMax, .int .i64 r.Max, .int .i64 r.Sum, .slice y.1 y.2.1 y.2.2, .bool r.Flag] : List Value).toArray ∧ St ok (bz w0) w' [] [own tStr 9 (.slice y.1 y.2.1 y.2.2) r.Elems] := by
  unfold fold_FieldOf at hf
  refine calls_of_W (fn := Try.f58) (N := 26) Try.func58 rfl Try.ntmps58 rfl ?_
  have hs : St ok (bz w0) w0 [vl t_fold_Object x1 v2] [] := St.init (All.cons i0 All.nil)
  clear i0
  obtain ⟨cs3, hl4, rfl⟩ := hs.aggv (n := 2) 0 rfl rfl rfl
  refine W.seqK fun K6 hK6 => ?_
  refine W.region ?_
  refine WL.box (vs := cs3) hs rfl rfl (fun g7 w hs => ?_)
  refine WL.alloc hs ZV85 (fun g8 w hs => ?_)
  refine WL.nil ?_
  refine hK6 _ _ ?_
  refine W.seqK fun K9 hK9 => ?_
  have Jk14 : ∀ (x11 : fold_Field) (cs12 : List Value) (ρ : Env) (w : World), cs12.length = 12 → ρ 1 = bstr x5 → ρ 4 = .pointer (some ⟨g8, 0, none⟩) → St ok (bz w0) w [vl t_fold_Field x11 (.agg cs12.toArray)] [blk g8 85 cs12] → fold_FieldOf.j1 x5 x11 = some r → K9 ρ w := by
    intro x11 cs12 ρ w hl13 h10_1 h10_4 hs hf
    refine hK9 _ _ ?_
    unfold fold_FieldOf.j1 at hf
    refine W.seqK fun K15 hK15 => ?_
    refine W.region ?_
    refine WL.move (v := bstr x5) h10_1 ?_
    refine WL.build (vs := [(0, bstr x5)]) (cs := [bstr x5, .bool false, .int .i64 0, .int .i64 0, .int .i64 0, .int .i64 0, bstr [], .bool false, .int .i64 0, .int .i64 0, .slice none 0 0, .bool false]) ⟨⟨rfl, rfl⟩, trivial⟩ (bld PL85 rfl) ?_
    refine WL.storeAll (vs := [bstr x5, .bool false, .int .i64 0, .int .i64 0, .int .i64 0, .int .i64 0, bstr [], .bool false, .int .i64 0, .int .i64 0, .slice none 0 0, .bool false]) hs 0 rfl TI85 h10_4 rfl rfl rfl (ones_of rfl) hl13 (fun w hs => ?_)
    refine WL.nil ?_
    refine hK15 _ _ ?_
    refine W.ret ?_
    have hr := Option.some.inj hf; subst hr
    have hs := hs.ownNil tStr 9
    exact ⟨_, resOk_one rfl (res_all hs 1 rfl TI85 h10_4 rfl), (none, 0, 0), rfl, (hs.mask [true]).pick []⟩
  refine W.seqK fun K16 hK16 => ?_
  refine W.region ?_
  refine WL.fieldAddr (m := 1) rfl FA80_1 rfl ?_
  refine WL.loadF (z := x1.Fields) F_fold_Object_Fields hs 1 rfl 0 rfl rfl TI78 (.inr rfl) rfl rfl (fun v17 hs => ?_)
  obtain ⟨a18, c19, rfl⟩ := hs.slice 0 rfl
  refine WL.len (v := .slice a18 (x1.Fields).length c19) rfl (len_slice UN78) ?_
  refine WL.move (v := .int .i64 0) rfl ?_
  refine WL.nil ?_
  refine hK16 _ _ ?_
  refine W.block ?_
  obtain ⟨bs25, hbs25, hfs25⟩ := bindE hf
  have hs := hs.add (it := vl t_fold_Field (⟨[], (⟨false, 0, 0, 0, 0, []⟩ : fold_Register), false, 0, 0, [], false⟩ : fold_Field) (.agg ([bstr [], .bool false, .int .i64 0, .int .i64 0, .int .i64 0, .int .i64 0, bstr [], .bool false, .int .i64 0, .int .i64 0, .slice none 0 0, .bool false]).toArray)) fun ok hA => V_agg (show t_fold_Field.R ok _ _ _ from ⟨([bstr []]), ([.bool false, .int .i64 0, .int .i64 0, .int .i64 0, .int .i64 0, bstr [], .bool false, .int .i64 0, .int .i64 0, .slice none 0 0, .bool false]), rfl, rfl, ⟨([.bool false, .int .i64 0, .int .i64 0, .int .i64 0, .int .i64 0, bstr []]), [.bool false, .int .i64 0, .int .i64 0, .slice none 0 0, .bool false], rfl, ⟨[.bool false], ([.int .i64 0, .int .i64 0, .int .i64 0, .int .i64 0, bstr []]), rfl, rfl, ⟨[.int .i64 0], ([.int .i64 0, .int .i64 0, .int .i64 0, bstr []]), rfl, rfl, ⟨[.int .i64 0], ([.int .i64 0, .int .i64 0, bstr []]), rfl, rfl, ⟨[.int .i64 0], ([.int .i64 0, bstr []]), rfl, rfl, ⟨[.int .i64 0], ([bstr []]), rfl, rfl, rfl⟩⟩⟩⟩⟩, ⟨[.bool false], [.int .i64 0, .int .i64 0, .slice none 0 0, .bool false], rfl, rfl, ⟨[.int .i64 0], [.int .i64 0, .slice none 0 0, .bool false], rfl, rfl, ⟨[.int .i64 0], [.slice none 0 0, .bool false], rfl, rfl, ⟨[.slice none 0 0], [.bool false], rfl, R_nil, rfl⟩⟩⟩⟩⟩⟩) rfl
  have hs := hs.add (it := vl t_fold_Field (⟨[], (⟨false, 0, 0, 0, 0, []⟩ : fold_Register), false, 0, 0, [], false⟩ : fold_Field) (.agg ([bstr [], .bool false, .int .i64 0, .int .i64 0, .int .i64 0, .int .i64 0, bstr [], .bool false, .int .i64 0, .int .i64 0, .slice none 0 0, .bool false]).toArray)) fun ok hA => V_agg (show t_fold_Field.R ok _ _ _ from ⟨([bstr []]), ([.bool false, .int .i64 0, .int .i64 0, .int .i64 0, .int .i64 0, bstr [], .bool false, .int .i64 0, .int .i64 0, .slice none 0 0, .bool false]), rfl, rfl, ⟨([.bool false, .int .i64 0, .int .i64 0, .int .i64 0, .int .i64 0, bstr []]), [.bool false, .int .i64 0, .int .i64 0, .slice none 0 0, .bool false], rfl, ⟨[.bool false], ([.int .i64 0, .int .i64 0, .int .i64 0, .int .i64 0, bstr []]), rfl, rfl, ⟨[.int .i64 0], ([.int .i64 0, .int .i64 0, .int .i64 0, bstr []]), rfl, rfl, ⟨[.int .i64 0], ([.int .i64 0, .int .i64 0, bstr []]), rfl, rfl, ⟨[.int .i64 0], ([.int .i64 0, bstr []]), rfl, rfl, ⟨[.int .i64 0], ([bstr []]), rfl, rfl, rfl⟩⟩⟩⟩⟩, ⟨[.bool false], [.int .i64 0, .int .i64 0, .slice none 0 0, .bool false], rfl, rfl, ⟨[.int .i64 0], [.int .i64 0, .slice none 0 0, .bool false], rfl, rfl, ⟨[.int .i64 0], [.slice none 0 0, .bool false], rfl, rfl, ⟨[.slice none 0 0], [.bool false], rfl, R_nil, rfl⟩⟩⟩⟩⟩⟩) rfl
  refine W.loop hbs25 (fun s ρ w => match s with | (x21, x22) => ∃ (cs23 : List Value), cs23.length = 12 ∧ ρ 1 = bstr x5 ∧ ρ 4 = .pointer (some ⟨g8, 0, none⟩) ∧ ρ 8 = .slice a18 (x1.Fields).length c19 ∧ ρ 9 = .int .i64 ((x1.Fields).length : Int) ∧ ρ 10 = .int .i64 x21 ∧ St ok (bz w0) w [vl (tSlice t_fold_Field) x1.Fields (.slice a18 (x1.Fields).length c19), vl t_fold_Field x22 (.agg cs23.toArray)] [blk g8 85 cs23]) ⟨[bstr [], .bool false, .int .i64 0, .int .i64 0, .int .i64 0, .int .i64 0, bstr [], .bool false, .int .i64 0, .int .i64 0, .slice none 0 0, .bool false], rfl, rfl, rfl, rfl, rfl, rfl, (hs.mask [true]).pick [2, 0]⟩ ?_
  intro s ρ w os25 hI hf hbbs25
  obtain ⟨x21, x22⟩ := s
  obtain ⟨cs23, hl24, h20_1, h20_4, h20_8, h20_9, h20_10, hs⟩ := hI
  unfold fold_FieldOf.l1 at hf
  refine W.seqK fun K26 hK26 => ?_
  refine W.region ?_
  refine WL.bin (v := .bool (decide (x21 < ((x1.Fields).length : Int)))) h20_10 h20_9 (ib_lss _ _ _) ?_
  refine WL.nil ?_
  refine hK26 _ _ ?_
  refine W.seqK fun K27 hK27 => ?_
  rcases iteE hf with ⟨hc28, hf⟩ | ⟨hc28, hf⟩
  {
  refine W.cond_true (bool_tr rfl hc28) ?_
  refine W.skip ?_
  refine hK27 _ _ ?_
  refine W.seqK fun K29 hK29 => ?_
  refine W.block ?_
  refine W.seqK fun K30 hK30 => ?_
  refine W.region ?_
  obtain ⟨x31, hxx31, hf⟩ := bindE hf
  refine WL.indexAddr hs 0 rfl UN78 TI85 h20_8 h20_10 hxx31 (fun ad32 hs => ?_)
  refine WL.loadP hs 0 rfl TI85 (.inl rfl) rfl (fun v33 hs => ?_)
  obtain ⟨cs34, hl35, rfl⟩ := hs.aggv (n := 12) 0 rfl rfl rfl
  refine WL.alloc hs ZV85 (fun g36 w hs => ?_)
  obtain ⟨a37, c38, rfl⟩ := open_fold_Field hs 0 rfl
  have hs := hs.add (it := vl (tSlice tStr) x31.Elems (.slice a37 (x31.Elems).length c38)) fun ok hA => V_fld F_fold_Field_Elems (hA.get 0 rfl) rfl rfl rfl
  refine WL.storeAll (vs := [bstr x31.Name, .bool x31.Register.Set, .int .i64 x31.Register.Tag, .int .i64 x31.Register.Client, .int .i64 x31.Register.Seq, .int .i64 x31.Register.N, bstr x31.Register.S, .bool x31.HasMax, .int .i64 x31.Max, .int .i64 x31.Sum, .slice a37 (x31.Elems).length c38, .bool x31.Flag]) hs 0 rfl TI85 rfl rfl rfl rfl (ones_of rfl) rfl (fun w hs => ?_)
  refine WL.nil ?_
  refine hK30 _ _ ?_
  refine W.seqK fun K39 hK39 => ?_
  refine W.region ?_
  refine WL.fieldAddr (m := 0) rfl FA85_0 rfl ?_
  refine WL.load1 (v := bstr x31.Name) hs 0 rfl TI9 rfl rfl ?_
  refine WL.move (v := bstr x5) h20_1 ?_
  refine WL.binS (v := .bool (x31.Name == x5)) rfl rfl (sb_eql _ _) ?_
  refine WL.nil ?_
  refine hK39 _ _ ?_
  rcases iteE hf with ⟨hc40, hf⟩ | ⟨hc40, hf⟩
  {
  refine W.cond_true (bool_tr rfl hc40) ?_
  refine W.seqK fun K41 hK41 => ?_
  refine W.region ?_
  refine WL.fieldAddr (m := 10) rfl FA85_5 rfl ?_
  refine WL.load1 (v := .slice a37 (x31.Elems).length c38) hs 0 rfl TI32 rfl rfl ?_
  obtain ⟨x42, hxx42, hf⟩ := bindE hf
  refine WL.call (vs := [.slice a37 (x31.Elems).length c38]) hs FN36 ⟨rfl, trivial⟩ (fun ok hA => slices_Clone_string.calls (x1 := x31.Elems) hxx42 (hA.get 0 rfl)) ?_
  rintro ⟨a43, n44, c45⟩ w hs
  refine WL.fieldAddr (m := 10) rfl FA85_5 rfl ?_
  refine WL.store (vs := [.slice a43 n44 c45]) (cs' := [bstr x31.Name, .bool x31.Register.Set, .int .i64 x31.Register.Tag, .int .i64 x31.Register.Client, .int .i64 x31.Register.Seq, .int .i64 x31.Register.N, bstr x31.Register.S, .bool x31.HasMax, .int .i64 x31.Max, .int .i64 x31.Sum, .slice a43 n44 c45, .bool x31.Flag]) hs 1 rfl TI32 rfl rfl rfl rfl (ones_of rfl) (Nat.le_of_ble_eq_true rfl) rfl (fun w hs => ?_)
  refine WL.nil ?_
  refine hK41 _ _ ?_
  refine W.seqK fun K46 hK46 => ?_
  refine W.region ?_
  refine WL.loadN (vs := [bstr x31.Name, .bool x31.Register.Set, .int .i64 x31.Register.Tag, .int .i64 x31.Register.Client, .int .i64 x31.Register.Seq, .int .i64 x31.Register.N, bstr x31.Register.S, .bool x31.HasMax, .int .i64 x31.Max, .int .i64 x31.Sum, .slice a43 n44 c45, .bool x31.Flag]) hs 1 rfl TI85 rfl rfl rfl ?_
  refine WL.storeAll (vs := [bstr x31.Name, .bool x31.Register.Set, .int .i64 x31.Register.Tag, .int .i64 x31.Register.Client, .int .i64 x31.Register.Seq, .int .i64 x31.Register.N, bstr x31.Register.S, .bool x31.HasMax, .int .i64 x31.Max, .int .i64 x31.Sum, .slice a43 n44 c45, .bool x31.Flag]) hs 2 rfl TI85 h20_4 rfl rfl rfl (ones_of rfl) hl24 (fun w hs => ?_)
  refine WL.nil ?_
  refine hK46 _ _ ?_
  refine W.ret ?_
  have hr := Option.some.inj hf; subst hr
  have hr := hbbs25 _ rfl; subst hr
  have hf := hfs25
  have hr := Option.some.inj hf; subst hr
  exact ⟨_, resOk_one rfl (res_all hs 2 rfl TI85 h20_4 rfl), (a43, n44, c45), rfl, (hs.mask [true]).pick []⟩ }
  {
  refine W.cond_false (bool_tr rfl hc40) ?_
  refine W.skip ?_
  refine hK29 _ _ ?_
  refine W.region ?_
  obtain ⟨x47, ex47, hf⟩ := letE hf
  refine WL.bin (v := .int .i64 x47) h20_10 rfl (ib_as ex47 (ib_add _ _ _)) ?_
  refine WL.move (v := .int .i64 x47) rfl ?_
  refine WL.nil ?_
  exact ⟨_, (Option.some.inj hf).symm, cs23, hl24, h20_1, h20_4, h20_8, h20_9, rfl, (hs.mask [false, true]).pick [3, 4]⟩ } }
  {
  refine W.cond_false (bool_tr rfl hc28) ?_
  refine W.exit ?_
  have hr := Option.some.inj hf; subst hr
  have hr := hbbs25 _ rfl; subst hr
  have hf := hfs25
  exact Jk14 x22 cs23 _ _ hl24 h20_1 h20_4 ((hs.mask [true]).pick [1]) hf }
theorem fold_FieldOf.callc {ok : Nat → Prop} {w0 : World} {x1 : fold_Object} {x5 : List UInt8} {v2 : Value} {r : fold_Field} (hf : fold_FieldOf x1 x5 = some r) (i0 : (vl t_fold_Object x1 v2).holds ok w0) :
    Calls Try.prog 58 #[v2, bstr x5] w0 fun e w' => ∃ v, e = .returned v ∧ ∃ y : List Value, v = .agg y.toArray ∧ St ok (bz w0) w' [vl t_fold_Field r (.agg y.toArray)] [] := by
  refine (fold_FieldOf.calls (ok := ok) (w0 := w0) (x1 := x1) (x5 := x5) hf i0).mono ?_
  rintro e w' ⟨v, rfl, ⟨a50, n51, c52⟩, rfl, hs⟩
  obtain rfl := hs.ownLen 0 rfl
  have hs := hs.freezeOwn 0 rfl
  have hs := hs.add (it := vl t_fold_Field (⟨r.Name, (⟨r.Register.Set, r.Register.Tag, r.Register.Client, r.Register.Seq, r.Register.N, r.Register.S⟩ : fold_Register), r.HasMax, r.Max, r.Sum, r.Elems, r.Flag⟩ : fold_Field) (.agg [bstr r.Name, .bool r.Register.Set, .int .i64 r.Register.Tag, .int .i64 r.Register.Client, .int .i64 r.Register.Seq, .int .i64 r.Register.N, bstr r.Register.S, .bool r.HasMax, .int .i64 r.Max, .int .i64 r.Sum, .slice a50 (r.Elems).length c52, .bool r.Flag].toArray)) fun ok hA => V_agg (show t_fold_Field.R ok _ _ _ from ⟨[bstr r.Name], [.bool r.Register.Set, .int .i64 r.Register.Tag, .int .i64 r.Register.Client, .int .i64 r.Register.Seq, .int .i64 r.Register.N, bstr r.Register.S, .bool r.HasMax, .int .i64 r.Max, .int .i64 r.Sum, .slice a50 (r.Elems).length c52, .bool r.Flag], rfl, rfl, ⟨[.bool r.Register.Set, .int .i64 r.Register.Tag, .int .i64 r.Register.Client, .int .i64 r.Register.Seq, .int .i64 r.Register.N, bstr r.Register.S], [.bool r.HasMax, .int .i64 r.Max, .int .i64 r.Sum, .slice a50 (r.Elems).length c52, .bool r.Flag], rfl, ⟨[.bool r.Register.Set], [.int .i64 r.Register.Tag, .int .i64 r.Register.Client, .int .i64 r.Register.Seq, .int .i64 r.Register.N, bstr r.Register.S], rfl, rfl, ⟨[.int .i64 r.Register.Tag], [.int .i64 r.Register.Client, .int .i64 r.Register.Seq, .int .i64 r.Register.N, bstr r.Register.S], rfl, rfl, ⟨[.int .i64 r.Register.Client], [.int .i64 r.Register.Seq, .int .i64 r.Register.N, bstr r.Register.S], rfl, rfl, ⟨[.int .i64 r.Register.Seq], [.int .i64 r.Register.N, bstr r.Register.S], rfl, rfl, ⟨[.int .i64 r.Register.N], [bstr r.Register.S], rfl, rfl, rfl⟩⟩⟩⟩⟩, ⟨[.bool r.HasMax], [.int .i64 r.Max, .int .i64 r.Sum, .slice a50 (r.Elems).length c52, .bool r.Flag], rfl, rfl, ⟨[.int .i64 r.Max], [.int .i64 r.Sum, .slice a50 (r.Elems).length c52, .bool r.Flag], rfl, rfl, ⟨[.int .i64 r.Sum], [.slice a50 (r.Elems).length c52, .bool r.Flag], rfl, rfl, ⟨[.slice a50 (r.Elems).length c52], [.bool r.Flag], rfl, (R_one (hA.get 0 rfl)), rfl⟩⟩⟩⟩⟩⟩) rfl
  exact ⟨_, rfl, [bstr r.Name, .bool r.Register.Set, .int .i64 r.Register.Tag, .int .i64 r.Register.Client, .int .i64 r.Register.Seq, .int .i64 r.Register.N, bstr r.Register.S, .bool r.HasMax, .int .i64 r.Max, .int .i64 r.Sum, .slice a50 (r.Elems).length c52, .bool r.Flag], rfl, hs.pick [0]⟩
theorem index_Compare.calls {ok : Nat → Prop} {w0 : World} {x1 : index_Key} {x5 : index_Key} {v2 : Value} {v6 : Value} {r : Int} (hf : index_Compare x1 x5 = some r) (i0 : (vl t_index_Key x1 v2).holds ok w0) (i1 : (vl t_index_Key x5 v6).holds ok w0) :
    Calls Try.prog 5 #[v2, v6] w0 fun e w' => ∃ v, e = .returned v ∧ ∃ y : Unit, v = .int .i64 r ∧ St ok (bz w0) w' [] [] := by
  unfold index_Compare at hf
  refine calls_of_W (fn := Try.f5) (N := 22) Try.func5 rfl Try.ntmps5 rfl ?_
  have hs : St ok (bz w0) w0 [vl t_index_Key x1 v2, vl t_index_Key x5 v6] [] := St.init (All.cons i0 (All.cons i1 All.nil))
  clear i0 i1
  obtain ⟨cs3, hl4, rfl⟩ := hs.aggv (n := 3) 0 rfl rfl rfl
  obtain ⟨cs7, hl8, rfl⟩ := hs.aggv (n := 3) 1 rfl rfl rfl
  refine W.seqK fun K9 hK9 => ?_
  refine W.region ?_
  refine WL.box (vs := cs3) hs rfl rfl (fun g10 w hs => ?_)
  refine WL.box (vs := cs7) hs rfl rfl (fun g11 w hs => ?_)
  refine WL.assign (v := .int .i64 0) rfl ?_
  refine WL.nil ?_
  refine hK9 _ _ ?_
  refine W.seqK fun K12 hK12 => ?_
  obtain ⟨x15, hxx15, hf⟩ := bindE hf
  obtain ⟨x18, hxx18, hf⟩ := bindE hf
  obtain ⟨x21, hxx21, hf⟩ := bindE hf
  obtain ⟨x24, hxx24, hf⟩ := bindE hf
  refine W.any (by kernel_rfl) 17 1 [true, true, true, true, true, true, true, true, true, true, true, true, true, true, true, true, true, false] rfl rfl (poAt [pv (.pointer (some ⟨g10, 0, none⟩)), pv (.int .i64 x1.f_Type), pv (.pointer (some ⟨g11, 0, none⟩)), pv (.int .i64 x5.f_Type), pv (.int .i64 x15), pv (.pointer (some ⟨g10, 1, none⟩)), pv (.int .i64 x1.N), pv (.pointer (some ⟨g11, 1, none⟩)), pv (.int .i64 x5.N), pv (.int .i64 x18), pv (.pointer (some ⟨g10, 2, none⟩)), pv (bstr x1.S), pv (.pointer (some ⟨g11, 2, none⟩)), pv (bstr x5.S), pv (.int .i64 x21), pq (fun y : (Option Addr × Nat) => .slice y.1 ([x15, x18, x21]).length y.2) (fun v => [vl (tSlice (tInt .i64)) [x15, x18, x21] v]) (fun v => []), pv (.int .i64 x24)]) (Λ := [blk g11 23 cs7, blk g10 23 cs3]) hs (by kernel_rfl) (by kernel_rfl) (by kernel_rfl) ⟨⟨⟨⟨⟨⟨⟨⟨⟨⟨⟨⟨⟨⟨⟨⟨⟨trivial, ?_⟩, ?_⟩, ?_⟩, ?_⟩, ?_⟩, ?_⟩, ?_⟩, ?_⟩, ?_⟩, ?_⟩, ?_⟩, ?_⟩, ?_⟩, ?_⟩, ?_⟩, ?_⟩, ?_⟩ ?_
  {
  intro ρ w Γx Λx hs hu hp
  refine WL.fieldAddr (m := 0) (hu 2 rfl) FA23_0 rfl ?_
  exact WL.nil ⟨rfl, _, rfl, rfl, hs.cutG 0 0⟩ }
  {
  intro ρ w Γx Λx hs hu hp
  have e25 : ρ 5 = .pointer (some ⟨g10, 0, none⟩) := (hp 0 rfl).1
  refine WL.loadF (z := x1.f_Type) F_index_Key_f_Type hs (Λx.length + 1) (getApp rfl) (Γx.length + 0) (getApp rfl) rfl TI3 (.inr rfl) e25 rfl (fun v13 hs => ?_)
  obtain rfl := hs.int 0 rfl
  exact WL.nil ⟨rfl, _, rfl, rfl, hs.cutG 0 1⟩ }
  {
  intro ρ w Γx Λx hs hu hp
  refine WL.fieldAddr (m := 0) (hu 3 rfl) FA23_0 rfl ?_
  exact WL.nil ⟨rfl, _, rfl, rfl, hs.cutG 0 0⟩ }
  {
  intro ρ w Γx Λx hs hu hp
  have e26 : ρ 7 = .pointer (some ⟨g11, 0, none⟩) := (hp 2 rfl).1
  refine WL.loadF (z := x5.f_Type) F_index_Key_f_Type hs (Λx.length + 0) (getApp rfl) (Γx.length + 1) (getApp rfl) rfl TI3 (.inr rfl) e26 rfl (fun v14 hs => ?_)
  obtain rfl := hs.int 0 rfl
  exact WL.nil ⟨rfl, _, rfl, rfl, hs.cutG 0 1⟩ }
  {
  intro ρ w Γx Λx hs hu hp
  have e27 : ρ 6 = .int .i64 x1.f_Type := (hp 1 rfl).1
  have e28 : ρ 8 = .int .i64 x5.f_Type := (hp 3 rfl).1
  refine WL.call (vs := [.int .i64 x1.f_Type, .int .i64 x5.f_Type]) hs FN13 ⟨e27, ⟨e28, trivial⟩⟩ (fun ok hA => cmp_Compare_int.calls (x1 := x1.f_Type) (x2 := x5.f_Type) hxx15) ?_
  rintro _ w hs
  exact WL.nil ⟨rfl, _, rfl, rfl, hs.cutG 0 0⟩ }
  {
  intro ρ w Γx Λx hs hu hp
  refine WL.fieldAddr (m := 1) (hu 2 rfl) FA23_1 rfl ?_
  exact WL.nil ⟨rfl, _, rfl, rfl, hs.cutG 0 0⟩ }
  {
  intro ρ w Γx Λx hs hu hp
  have e29 : ρ 10 = .pointer (some ⟨g10, 1, none⟩) := (hp 5 rfl).1
  refine WL.loadF (z := x1.N) F_index_Key_N hs (Λx.length + 1) (getApp rfl) (Γx.length + 0) (getApp rfl) rfl TI2 (.inr rfl) e29 rfl (fun v16 hs => ?_)
  obtain rfl := hs.int 0 rfl
  exact WL.nil ⟨rfl, _, rfl, rfl, hs.cutG 0 1⟩ }
  {
  intro ρ w Γx Λx hs hu hp
  refine WL.fieldAddr (m := 1) (hu 3 rfl) FA23_1 rfl ?_
  exact WL.nil ⟨rfl, _, rfl, rfl, hs.cutG 0 0⟩ }
  {
  intro ρ w Γx Λx hs hu hp
  have e30 : ρ 12 = .pointer (some ⟨g11, 1, none⟩) := (hp 7 rfl).1
  refine WL.loadF (z := x5.N) F_index_Key_N hs (Λx.length + 0) (getApp rfl) (Γx.length + 1) (getApp rfl) rfl TI2 (.inr rfl) e30 rfl (fun v17 hs => ?_)
  obtain rfl := hs.int 0 rfl
  exact WL.nil ⟨rfl, _, rfl, rfl, hs.cutG 0 1⟩ }
  {
  intro ρ w Γx Λx hs hu hp
  have e31 : ρ 11 = .int .i64 x1.N := (hp 6 rfl).1
  have e32 : ρ 13 = .int .i64 x5.N := (hp 8 rfl).1
  refine WL.call (vs := [.int .i64 x1.N, .int .i64 x5.N]) hs FN14 ⟨e31, ⟨e32, trivial⟩⟩ (fun ok hA => cmp_Compare_int64.calls (x1 := x1.N) (x2 := x5.N) hxx18) ?_
  rintro _ w hs
  exact WL.nil ⟨rfl, _, rfl, rfl, hs.cutG 0 0⟩ }
  {
  intro ρ w Γx Λx hs hu hp
  refine WL.fieldAddr (m := 2) (hu 2 rfl) FA23_2 rfl ?_
  exact WL.nil ⟨rfl, _, rfl, rfl, hs.cutG 0 0⟩ }
  {
  intro ρ w Γx Λx hs hu hp
  have e33 : ρ 15 = .pointer (some ⟨g10, 2, none⟩) := (hp 10 rfl).1
  refine WL.loadF (z := x1.S) F_index_Key_S hs (Λx.length + 1) (getApp rfl) (Γx.length + 0) (getApp rfl) rfl TI9 (.inr rfl) e33 rfl (fun v19 hs => ?_)
  obtain rfl := hs.str 0 rfl
  exact WL.nil ⟨rfl, _, rfl, rfl, hs.cutG 0 1⟩ }
  {
  intro ρ w Γx Λx hs hu hp
  refine WL.fieldAddr (m := 2) (hu 3 rfl) FA23_2 rfl ?_
  exact WL.nil ⟨rfl, _, rfl, rfl, hs.cutG 0 0⟩ }
  {
  intro ρ w Γx Λx hs hu hp
  have e34 : ρ 17 = .pointer (some ⟨g11, 2, none⟩) := (hp 12 rfl).1
  refine WL.loadF (z := x5.S) F_index_Key_S hs (Λx.length + 0) (getApp rfl) (Γx.length + 1) (getApp rfl) rfl TI9 (.inr rfl) e34 rfl (fun v20 hs => ?_)
  obtain rfl := hs.str 0 rfl
  exact WL.nil ⟨rfl, _, rfl, rfl, hs.cutG 0 1⟩ }
  {
  intro ρ w Γx Λx hs hu hp
  have e35 : ρ 16 = bstr x1.S := (hp 11 rfl).1
  have e36 : ρ 18 = bstr x5.S := (hp 13 rfl).1
  refine WL.call (vs := [bstr x1.S, bstr x5.S]) hs FN15 ⟨e35, ⟨e36, trivial⟩⟩ (fun ok hA => cmp_Compare_string.calls (x1 := x1.S) (x2 := x5.S) hxx21) ?_
  rintro _ w hs
  exact WL.nil ⟨rfl, _, rfl, rfl, hs.cutG 0 0⟩ }
  {
  intro ρ w Γx Λx hs hu hp
  have e37 : ρ 9 = .int .i64 x15 := (hp 4 rfl).1
  have e38 : ρ 14 = .int .i64 x18 := (hp 9 rfl).1
  have e39 : ρ 19 = .int .i64 x21 := (hp 14 rfl).1
  refine WL.buildSliceB (ys := [x15, x18, x21]) (n := 3) (vs := [(0, .int .i64 x15), (1, .int .i64 x18), (2, .int .i64 x21)]) (cs := [.int .i64 x15, .int .i64 x18, .int .i64 x21]) hs ⟨⟨rfl, e37⟩, ⟨⟨rfl, e38⟩, ⟨⟨rfl, e39⟩, trivial⟩⟩⟩ (bls PS59 (by decide) rfl) (fun ok hA => (Cells.app (Cells.one (T := tInt .i64) rfl) (Cells.app (Cells.one (T := tInt .i64) rfl) (Cells.one (T := tInt .i64) rfl)))) rfl (by decide) (fun a23 w hBl hs => ?_)
  have hs := hs.add (it := vl (tSlice (tInt .i64)) [x15, x18, x21] (.slice a23 ([x15, x18, x21]).length 3)) fun ok hA => hA.get 0 rfl
  exact WL.nil ⟨rfl, _, rfl, ⟨(a23, 3), rfl⟩, hs.cutG 1 1⟩ }
  {
  intro ρ w Γx Λx hs hu hp
  obtain ⟨⟨⟨a40, c41⟩, e42r⟩, hm43⟩ := hp 15 rfl
  have e42 : ρ 20 = .slice a40 ([x15, x18, x21]).length c41 := e42r
  rw [e42r] at hm43
  have hs := hs.memo1 (it := vl (tSlice (tInt .i64)) [x15, x18, x21] (.slice a40 ([x15, x18, x21]).length c41)) (List.mem_append.2 (.inl (hm43 _ (List.mem_of_getElem? (i := 0) rfl))))
  refine WL.call (vs := [.slice a40 ([x15, x18, x21]).length c41]) hs FN12 ⟨e42, trivial⟩ (fun ok hA => cmp_Or_int.calls (x1 := [x15, x18, x21]) hxx24 (hA.get 0 rfl)) ?_
  rintro _ w hs
  exact WL.nil ⟨rfl, _, rfl, rfl, hs.cutG 0 1⟩ }
  {
  intro ρ w hs hu44 hp
  obtain ⟨⟨⟨⟨⟨⟨⟨⟨⟨⟨⟨⟨⟨⟨⟨⟨⟨_, hp0_⟩, hp1_⟩, hp2_⟩, hp3_⟩, hp4_⟩, hp5_⟩, hp6_⟩, hp7_⟩, hp8_⟩, hp9_⟩, hp10_⟩, hp11_⟩, hp12_⟩, hp13_⟩, hp14_⟩, hp15_⟩, hp16_⟩ := hp
  have hs : St ok (bz w0) w [vl (tSlice (tInt .i64)) [x15, x18, x21] (ρ 20), vl t_index_Key x1 (.agg cs3.toArray), vl t_index_Key x5 (.agg cs7.toArray)] [blk g11 23 cs7, blk g10 23 cs3] := hs
  have e45 : ρ 21 = .int .i64 x24 := hp16_
  obtain ⟨⟨a46, c47⟩, e48⟩ := hp15_
  have e48 : ρ 20 = .slice a46 ([x15, x18, x21]).length c47 := e48
  try rw [e48] at hs
  have e49 : ρ 19 = .int .i64 x21 := hp14_
  have e50 : ρ 18 = bstr x5.S := hp13_
  have e51 : ρ 17 = .pointer (some ⟨g11, 2, none⟩) := hp12_
  have e52 : ρ 16 = bstr x1.S := hp11_
  have e53 : ρ 15 = .pointer (some ⟨g10, 2, none⟩) := hp10_
  have e54 : ρ 14 = .int .i64 x18 := hp9_
  have e55 : ρ 13 = .int .i64 x5.N := hp8_
  have e56 : ρ 12 = .pointer (some ⟨g11, 1, none⟩) := hp7_
  have e57 : ρ 11 = .int .i64 x1.N := hp6_
  have e58 : ρ 10 = .pointer (some ⟨g10, 1, none⟩) := hp5_
  have e59 : ρ 9 = .int .i64 x15 := hp4_
  have e60 : ρ 8 = .int .i64 x5.f_Type := hp3_
  have e61 : ρ 7 = .pointer (some ⟨g11, 0, none⟩) := hp2_
  have e62 : ρ 6 = .int .i64 x1.f_Type := hp1_
  have e63 : ρ 5 = .pointer (some ⟨g10, 0, none⟩) := hp0_
  refine WA.step [17] (by kernel_rfl) (by simp) ⟨?_, trivial⟩
  refine WL.assign (v := .int .i64 x24) e45 ?_
  refine WL.nil ⟨rfl, _, rfl, ?_⟩
  refine WA.done (by kernel_rfl) ?_
  refine hK12 _ _ ?_
  refine W.ret ?_
  have hr := Option.some.inj hf; subst hr
  exact ⟨_, resOk_one rfl rfl, (), rfl, (hs.mask []).pick []⟩ }
theorem slices_Compact_Key.calls {ok : Nat → Prop} {w0 : World} {F : Base} {x1 : List index_Key} {a2 : Option Addr} {n3 c4 : Nat} {r : List index_Key} (hf : slices_Compact_Key x1 = some r) (hs : St ok F w0 [] [own t_index_Key 23 (.slice a2 n3 c4) x1]) :
    Calls Try.prog 60 #[.slice a2 n3 c4] w0 fun e w' => ∃ v, e = .returned v ∧ ∃ y : (Option Addr × Nat × Nat), v = .slice y.1 y.2.1 y.2.2 ∧ St ok F w' [] [own t_index_Key 23 (.slice y.1 y.2.1 y.2.2) r] := by
  unfold slices_Compact_Key at hf
  refine calls_of_W (fn := Try.f60) (N := 61) Try.func60 rfl Try.ntmps60 rfl ?_
  refine W.seqK fun K5 hK5 => ?_
  refine W.region ?_
  refine WL.assign (v := .slice none 0 0) rfl ?_
  refine WL.nil ?_
  refine hK5 _ _ ?_
  refine W.seqK fun K6 hK6 => ?_
  refine W.seqK fun K7 hK7 => ?_
  refine W.region ?_
  refine WL.move (v := .slice a2 n3 c4) rfl ?_
  refine WL.len (v := .slice a2 n3 c4) rfl (len_own hs 0 rfl UN100) ?_
  refine WL.bin (v := .bool (decide ((x1.length : Int) < 2))) rfl rfl (ib_lss _ _ _) ?_
  refine WL.nil ?_
  refine hK7 _ _ ?_
  rcases iteE hf with ⟨hc8, hf⟩ | ⟨hc8, hf⟩
  {
  refine W.cond_true (bool_tr rfl hc8) ?_
  refine W.seqK fun K9 hK9 => ?_
  refine W.region ?_
  refine WL.move (v := .slice a2 n3 c4) rfl ?_
  refine WL.assign (v := .slice a2 n3 c4) rfl ?_
  refine WL.nil ?_
  refine hK9 _ _ ?_
  refine W.ret ?_
  have hr := Option.some.inj hf; subst hr
  exact ⟨_, resOk_one rfl rfl, (a2, n3, c4), rfl, (hs.mask [true]).pick []⟩ }
  {
  refine W.cond_false (bool_tr rfl hc8) ?_
  refine W.skip ?_
  refine hK6 _ _ ?_
  refine W.seqK fun K10 hK10 => ?_
  have Jk13 : ∀ (x11 : List index_Key) (ρ : Env) (w : World), ρ 0 = .slice a2 n3 c4 → St ok F w [] [own t_index_Key 23 (.slice a2 n3 c4) x11] → slices_Compact_Key.j1 x11 = some r → K10 ρ w := by
    intro x11 ρ w h12_0 hs hf
    refine hK10 _ _ ?_
    unfold slices_Compact_Key.j1 at hf
    refine W.seqK fun K14 hK14 => ?_
    refine W.region ?_
    refine WL.move (v := .slice a2 n3 c4) h12_0 ?_
    refine WL.assign (v := .slice a2 n3 c4) rfl ?_
    refine WL.nil ?_
    refine hK14 _ _ ?_
    refine W.ret ?_
    have hr := Option.some.inj hf; subst hr
    exact ⟨_, resOk_one rfl rfl, (a2, n3, c4), rfl, (hs.mask [true]).pick []⟩
  refine W.seqK fun K15 hK15 => ?_
  refine W.region ?_
  refine WL.assign (v := .int .i64 1) rfl ?_
  refine WL.nil ?_
  refine hK15 _ _ ?_
  refine W.block ?_
  obtain ⟨bs19, hbs19, hfs19⟩ := bindE hf
  refine W.loop hbs19 (fun s ρ w => match s with | (x16, x18) => ρ 0 = .slice a2 n3 c4 ∧ ρ 3 = .int .i64 x18 ∧ St ok F w [] [own t_index_Key 23 (.slice a2 n3 c4) x16]) ⟨rfl, rfl, (hs.mask [true]).pick []⟩ ?_
  intro s ρ w os19 hI hf hbbs19
  obtain ⟨x16, x18⟩ := s
  obtain ⟨h17_0, h17_3, hs⟩ := hI
  unfold slices_Compact_Key.l2 at hf
  refine W.seqK fun K20 hK20 => ?_
  refine W.seqK fun K21 hK21 => ?_
  refine W.region ?_
  refine WL.move (v := .int .i64 x18) h17_3 ?_
  refine WL.move (v := .slice a2 n3 c4) h17_0 ?_
  refine WL.len (v := .slice a2 n3 c4) rfl (len_own hs 0 rfl UN100) ?_
  refine WL.bin (v := .bool (decide (x18 < (x16.length : Int)))) rfl rfl (ib_lss _ _ _) ?_
  refine WL.nil ?_
  refine hK21 _ _ ?_
  rcases iteE hf with ⟨hc22, hf⟩ | ⟨hc22, hf⟩
  {
  refine W.cond_true (bool_tr rfl hc22) ?_
  refine W.skip ?_
  refine hK20 _ _ ?_
  refine W.seqK fun K23 hK23 => ?_
  have Jk27 : ∀ (x24 : List index_Key) (x26 : Int) (ρ : Env) (w : World), ρ 0 = .slice a2 n3 c4 → ρ 3 = .int .i64 x26 → St ok F w [] [own t_index_Key 23 (.slice a2 n3 c4) x24] → slices_Compact_Key.j2 x24 x26 = some os19 → K23 ρ w := by
    intro x24 x26 ρ w h25_0 h25_3 hs hf
    refine hK23 _ _ ?_
    unfold slices_Compact_Key.j2 at hf
    refine W.region ?_
    refine WL.move (v := .int .i64 x26) h25_3 ?_
    obtain ⟨x28, ex28, hf⟩ := letE hf
    refine WL.bin (v := .int .i64 x28) rfl rfl (ib_as ex28 (ib_add _ _ _)) ?_
    refine WL.assign (v := .int .i64 x28) rfl ?_
    refine WL.nil ?_
    exact ⟨_, (Option.some.inj hf).symm, h25_0, rfl, (hs.mask [true]).pick []⟩
  refine W.block ?_
  refine W.seqK fun K29 hK29 => ?_
  obtain ⟨x30, hxx30, hf⟩ := bindE hf
  obtain ⟨x35, ex35, hf⟩ := letE hf
  obtain ⟨x36, hxx36, hf⟩ := bindE hf
  refine W.any (by kernel_rfl) 10 0 [true, true, true, true, true, true, true, true, true, true] rfl rfl (poAt [pv (.slice a2 n3 c4), pv (.int .i64 x18), po (fun ad => Go.Proofs.YtpfgdjfiimknlaaL.OwnAt 3 (.slice a2 n3 c4) x18 ad), pq (fun y : List Value => .agg y.toArray) (fun v => [vl t_index_Key x30 v]) (fun v => []), pv (.slice a2 n3 c4), pv (.int .i64 x18), pv (.int .i64 x35), po (fun ad => Go.Proofs.YtpfgdjfiimknlaaL.OwnAt 3 (.slice a2 n3 c4) x35 ad), pq (fun y : List Value => .agg y.toArray) (fun v => [vl t_index_Key x36 v]) (fun v => []), pv (.bool (decide ((⟨x30.f_Type, x30.N, x30.S⟩ : index_Key) = (⟨x36.f_Type, x36.N, x36.S⟩ : index_Key))))]) (Λ := [own t_index_Key 23 (.slice a2 n3 c4) x16]) hs (by kernel_rfl) (by kernel_rfl) (by kernel_rfl) ⟨⟨⟨⟨⟨⟨⟨⟨⟨⟨trivial, ?_⟩, ?_⟩, ?_⟩, ?_⟩, ?_⟩, ?_⟩, ?_⟩, ?_⟩, ?_⟩, ?_⟩ ?_
  {
  intro ρ w Γx Λx hs hu hp
  refine WL.move (v := .slice a2 n3 c4) ((hu 0 rfl).trans h17_0) ?_
  exact WL.nil ⟨rfl, _, rfl, rfl, hs.cutG 0 0⟩ }
  {
  intro ρ w Γx Λx hs hu hp
  refine WL.move (v := .int .i64 x18) ((hu 3 rfl).trans h17_3) ?_
  exact WL.nil ⟨rfl, _, rfl, rfl, hs.cutG 0 0⟩ }
  {
  intro ρ w Γx Λx hs hu hp
  have e41 : ρ 16 = .slice a2 n3 c4 := (hp 0 rfl).1
  have e42 : ρ 17 = .int .i64 x18 := (hp 1 rfl).1
  refine WL.indexAddrO hs (Λx.length + 0) (getApp rfl) UN100 TI23 e41 e42 hxx30 (fun ad31 hatad31 => ?_)
  exact WL.nil ⟨rfl, _, rfl, ⟨ad31, rfl, hatad31⟩, hs.cutG 0 0⟩ }
  {
  intro ρ w Γx Λx hs hu hp
  obtain ⟨ad44, e43, hatad44⟩ := (hp 2 rfl).1
  have e43 : ρ 18 = .pointer (some ad44) := e43
  refine WL.loadO hs (Λx.length + 0) (getApp rfl) TI23 (.inl rfl) hatad44 hxx30 e43 (fun v32 hs => ?_)
  obtain ⟨cs33, hl34, rfl⟩ := hs.aggv (n := 3) 0 rfl rfl rfl
  have hs := hs.add (it := vl t_index_Key x30 (.agg cs33.toArray)) fun ok hA => hA.get 0 rfl
  exact WL.nil ⟨rfl, _, rfl, ⟨cs33, rfl⟩, hs.cutG 1 1⟩ }
  {
  intro ρ w Γx Λx hs hu hp
  refine WL.move (v := .slice a2 n3 c4) ((hu 0 rfl).trans h17_0) ?_
  exact WL.nil ⟨rfl, _, rfl, rfl, hs.cutG 0 0⟩ }
  {
  intro ρ w Γx Λx hs hu hp
  refine WL.move (v := .int .i64 x18) ((hu 3 rfl).trans h17_3) ?_
  exact WL.nil ⟨rfl, _, rfl, rfl, hs.cutG 0 0⟩ }
  {
  intro ρ w Γx Λx hs hu hp
  have e45 : ρ 21 = .int .i64 x18 := (hp 5 rfl).1
  refine WL.bin (v := .int .i64 x35) e45 rfl (ib_as ex35 (ib_sub _ _ _)) ?_
  exact WL.nil ⟨rfl, _, rfl, rfl, hs.cutG 0 0⟩ }
  {
  intro ρ w Γx Λx hs hu hp
  have e46 : ρ 20 = .slice a2 n3 c4 := (hp 4 rfl).1
  have e47 : ρ 22 = .int .i64 x35 := (hp 6 rfl).1
  refine WL.indexAddrO hs (Λx.length + 0) (getApp rfl) UN100 TI23 e46 e47 hxx36 (fun ad37 hatad37 => ?_)
  exact WL.nil ⟨rfl, _, rfl, ⟨ad37, rfl, hatad37⟩, hs.cutG 0 0⟩ }
  {
  intro ρ w Γx Λx hs hu hp
  obtain ⟨ad49, e48, hatad49⟩ := (hp 7 rfl).1
  have e48 : ρ 23 = .pointer (some ad49) := e48
  refine WL.loadO hs (Λx.length + 0) (getApp rfl) TI23 (.inl rfl) hatad49 hxx36 e48 (fun v38 hs => ?_)
  obtain ⟨cs39, hl40, rfl⟩ := hs.aggv (n := 3) 0 rfl rfl rfl
  have hs := hs.add (it := vl t_index_Key x36 (.agg cs39.toArray)) fun ok hA => hA.get 0 rfl
  exact WL.nil ⟨rfl, _, rfl, ⟨cs39, rfl⟩, hs.cutG 1 1⟩ }
  {
  intro ρ w Γx Λx hs hu hp
  obtain ⟨⟨cs50, e52r⟩, hm53⟩ := hp 3 rfl
  have e52 : ρ 19 = .agg cs50.toArray := e52r
  rw [e52r] at hm53
  have hs := hs.memo1 (it := vl t_index_Key x30 (.agg cs50.toArray)) (List.mem_append.2 (.inl (hm53 _ (List.mem_of_getElem? (i := 0) rfl))))
  have hl51 := hs.agglen (n := 3) 0 rfl rfl rfl
  obtain ⟨⟨cs54, e56r⟩, hm57⟩ := hp 8 rfl
  have e56 : ρ 24 = .agg cs54.toArray := e56r
  rw [e56r] at hm57
  have hs := hs.memo1 (it := vl t_index_Key x36 (.agg cs54.toArray)) (List.mem_cons_of_mem _ (List.mem_append.2 (.inl (hm57 _ (List.mem_of_getElem? (i := 0) rfl)))))
  have hl55 := hs.agglen (n := 3) 0 rfl rfl rfl
  obtain rfl := open_index_Key hs 1 rfl
  obtain rfl := open_index_Key hs 0 rfl
  refine WL.eqA e52 e56 EG23 (EQ23 (⟨x30.f_Type, x30.N, x30.S⟩ : index_Key) (⟨x36.f_Type, x36.N, x36.S⟩ : index_Key)) ?_
  exact WL.nil ⟨rfl, _, rfl, rfl, hs.cutG 0 2⟩ }
  {
  intro ρ w hs hu58 hp
  obtain ⟨⟨⟨⟨⟨⟨⟨⟨⟨⟨_, hp0_⟩, hp1_⟩, hp2_⟩, hp3_⟩, hp4_⟩, hp5_⟩, hp6_⟩, hp7_⟩, hp8_⟩, hp9_⟩ := hp
  have hs : St ok F w [vl t_index_Key x36 (ρ 24), vl t_index_Key x30 (ρ 19)] [own t_index_Key 23 (.slice a2 n3 c4) x16] := hs
  have e59 : ρ 25 = .bool (decide ((⟨x30.f_Type, x30.N, x30.S⟩ : index_Key) = (⟨x36.f_Type, x36.N, x36.S⟩ : index_Key))) := hp9_
  obtain ⟨cs60, e62⟩ := hp8_
  have e62 : ρ 24 = .agg cs60.toArray := e62
  try rw [e62] at hs
  have e63 : ρ 22 = .int .i64 x35 := hp6_
  have e64 : ρ 21 = .int .i64 x18 := hp5_
  have e65 : ρ 20 = .slice a2 n3 c4 := hp4_
  obtain ⟨cs66, e68⟩ := hp3_
  have e68 : ρ 19 = .agg cs66.toArray := e68
  try rw [e68] at hs
  have e69 : ρ 17 = .int .i64 x18 := hp1_
  have e70 : ρ 16 = .slice a2 n3 c4 := hp0_
  have hl67 := hs.agglen (n := 3) 1 rfl rfl rfl
  have hl61 := hs.agglen (n := 3) 0 rfl rfl rfl
  refine WA.done (by kernel_rfl) ?_
  refine hK29 _ _ ?_
  rcases iteE hf with ⟨hc71, hf⟩ | ⟨hc71, hf⟩
  {
  refine W.cond_true (bool_tr e59 hc71) ?_
  refine W.seqK fun K72 hK72 => ?_
  refine W.region ?_
  refine WL.move (v := .slice a2 n3 c4) ((hu58 0 rfl).trans h17_0) ?_
  refine WL.move (v := .int .i64 x18) ((hu58 3 rfl).trans h17_3) ?_
  obtain ⟨hn73, hf⟩ := guardE hf
  refine WL.view_l hs 0 rfl UN100 TI23 rfl rfl hn73 ?_
  refine WL.assign (v := cutv a2 ((x18).toNat) n3 c4 3) rfl ?_
  refine WL.nil ?_
  refine hK72 _ _ ?_
  refine W.seqK fun K74 hK74 => ?_
  have Jk78 : ∀ (x75 : List index_Key) (x77 : Int) (ρ : Env) (w : World), ρ 0 = .slice a2 n3 c4 → ρ 3 = .int .i64 x77 → St ok F w [] [own t_index_Key 23 (.slice a2 n3 c4) x75] → slices_Compact_Key.j3 x75 x77 = some os19 → K74 ρ w := by
    intro x75 x77 ρ w h76_0 h76_3 hs hf
    refine hK74 _ _ ?_
    unfold slices_Compact_Key.j3 at hf
    refine W.seqK fun K79 hK79 => ?_
    refine W.region ?_
    refine WL.move (v := .slice a2 n3 c4) h76_0 ?_
    refine WL.move (v := .int .i64 x77) h76_3 ?_
    obtain ⟨hn80, hf⟩ := guardE hf
    refine WL.view_l hs 0 rfl UN100 TI23 rfl rfl hn80 ?_
    obtain ⟨x81, hxx81, hf⟩ := bindE hf
    refine WL.clearO (l := x77) (z := (⟨0, 0, []⟩)) hs 0 rfl UN100 rfl ZR23 (fun ok => (show t_index_Key.R ok _ (⟨0, 0, []⟩ : index_Key) _ from ⟨[.int .i64 0], ([.int .i64 0, bstr []]), rfl, rfl, ⟨[.int .i64 0], ([bstr []]), rfl, rfl, rfl⟩⟩)) (by decide) hxx81 (fun w hs => ?_)
    refine WL.nil ?_
    refine hK79 _ _ ?_
    refine W.seqK fun K82 hK82 => ?_
    refine W.region ?_
    refine WL.move (v := .slice a2 n3 c4) h76_0 ?_
    refine WL.move (v := .int .i64 x77) h76_3 ?_
    obtain ⟨x83, hxx83, hf⟩ := bindE hf
    refine WL.sliceO_h hs 0 rfl UN100 TI23 rfl rfl hxx83 (fun hs => ?_)
    refine WL.assign (v := .slice a2 x83.length c4) rfl ?_
    refine WL.nil ?_
    refine hK82 _ _ ?_
    refine W.ret ?_
    have hr := Option.some.inj hf; subst hr
    have hr := hbbs19 _ rfl; subst hr
    have hf := hfs19
    have hr := Option.some.inj hf; subst hr
    exact ⟨_, resOk_one rfl rfl, (a2, x83.length, c4), rfl, (hs.mask [true]).pick []⟩
  refine W.seqK fun K84 hK84 => ?_
  refine W.region ?_
  refine WL.assign (v := .int .i64 1) rfl ?_
  refine WL.nil ?_
  refine hK84 _ _ ?_
  refine W.block ?_
  obtain ⟨bs89, hbs89, hfs89⟩ := bindE hf
  refine W.loop hbs89 (fun s ρ w => match s with | (x85, x87, x88) => ρ 0 = .slice a2 n3 c4 ∧ ρ 3 = .int .i64 x87 ∧ ρ 4 = cutv a2 ((x18).toNat) n3 c4 3 ∧ ρ 5 = .int .i64 x88 ∧ St ok F w [] [own t_index_Key 23 (.slice a2 n3 c4) x85]) ⟨((hu58 0 rfl).trans h17_0), ((hu58 3 rfl).trans h17_3), rfl, rfl, (hs.mask [true]).pick []⟩ ?_
  intro s ρ w os89 hI hf hbbs89
  obtain ⟨x85, x87, x88⟩ := s
  obtain ⟨h86_0, h86_3, h86_4, h86_5, hs⟩ := hI
  unfold slices_Compact_Key.l1 at hf
  refine W.seqK fun K90 hK90 => ?_
  refine W.seqK fun K91 hK91 => ?_
  refine W.region ?_
  refine WL.move (v := .int .i64 x88) h86_5 ?_
  refine WL.move (v := cutv a2 ((x18).toNat) n3 c4 3) h86_4 ?_
  refine WL.len (v := cutv a2 ((x18).toNat) n3 c4 3) rfl (len_viewO hs 0 rfl UN100) ?_
  refine WL.bin (v := .bool (decide (x88 < ((x85.length - (x18).toNat : Nat) : Int)))) rfl rfl (ib_lss _ _ _) ?_
  refine WL.nil ?_
  refine hK91 _ _ ?_
  rcases iteE hf with ⟨hc92, hf⟩ | ⟨hc92, hf⟩
  {
  refine W.cond_true (bool_tr rfl hc92) ?_
  refine W.skip ?_
  refine hK90 _ _ ?_
  refine W.seqK fun K93 hK93 => ?_
  have Jk97 : ∀ (x94 : List index_Key) (x96 : Int) (ρ : Env) (w : World), ρ 0 = .slice a2 n3 c4 → ρ 3 = .int .i64 x96 → ρ 4 = cutv a2 ((x18).toNat) n3 c4 3 → ρ 5 = .int .i64 x88 → St ok F w [] [own t_index_Key 23 (.slice a2 n3 c4) x94] → slices_Compact_Key.j4 x88 x94 x96 = some os89 → K93 ρ w := by
    intro x94 x96 ρ w h95_0 h95_3 h95_4 h95_5 hs hf
    refine hK93 _ _ ?_
    unfold slices_Compact_Key.j4 at hf
    refine W.region ?_
    refine WL.move (v := .int .i64 x88) h95_5 ?_
    obtain ⟨x98, ex98, hf⟩ := letE hf
    refine WL.bin (v := .int .i64 x98) rfl rfl (ib_as ex98 (ib_add _ _ _)) ?_
    refine WL.assign (v := .int .i64 x98) rfl ?_
    refine WL.nil ?_
    exact ⟨_, (Option.some.inj hf).symm, h95_0, h95_3, h95_4, rfl, (hs.mask [true]).pick []⟩
  refine W.block ?_
  refine W.seqK fun K99 hK99 => ?_
  obtain ⟨x100, hvx100, hf⟩ := bindE hf; have hxx100 := idx_drop hvx100
  obtain ⟨x105, ex105, hf⟩ := letE hf
  obtain ⟨x106, hvx106, hf⟩ := bindE hf; have hxx106 := idx_drop hvx106
  refine W.any (by kernel_rfl) 10 0 [true, true, true, true, true, true, true, true, true, true] rfl rfl (poAt [pv (cutv a2 ((x18).toNat) n3 c4 3), pv (.int .i64 x88), po (fun ad => Go.Proofs.YtpfgdjfiimknlaaL.OwnAt 3 (.slice a2 n3 c4) ((((x18).toNat : Nat) : Int) + x88) ad), pq (fun y : List Value => .agg y.toArray) (fun v => [vl t_index_Key x100 v]) (fun v => []), pv (cutv a2 ((x18).toNat) n3 c4 3), pv (.int .i64 x88), pv (.int .i64 x105), po (fun ad => Go.Proofs.YtpfgdjfiimknlaaL.OwnAt 3 (.slice a2 n3 c4) ((((x18).toNat : Nat) : Int) + x105) ad), pq (fun y : List Value => .agg y.toArray) (fun v => [vl t_index_Key x106 v]) (fun v => []), pv (.bool (!decide ((⟨x100.f_Type, x100.N, x100.S⟩ : index_Key) = (⟨x106.f_Type, x106.N, x106.S⟩ : index_Key))))]) (Λ := [own t_index_Key 23 (.slice a2 n3 c4) x85]) hs (by kernel_rfl) (by kernel_rfl) (by kernel_rfl) ⟨⟨⟨⟨⟨⟨⟨⟨⟨⟨trivial, ?_⟩, ?_⟩, ?_⟩, ?_⟩, ?_⟩, ?_⟩, ?_⟩, ?_⟩, ?_⟩, ?_⟩ ?_
  {
  intro ρ w Γx Λx hs hu hp
  refine WL.move (v := cutv a2 ((x18).toNat) n3 c4 3) ((hu 4 rfl).trans h86_4) ?_
  exact WL.nil ⟨rfl, _, rfl, rfl, hs.cutG 0 0⟩ }
  {
  intro ρ w Γx Λx hs hu hp
  refine WL.move (v := .int .i64 x88) ((hu 5 rfl).trans h86_5) ?_
  exact WL.nil ⟨rfl, _, rfl, rfl, hs.cutG 0 0⟩ }
  {
  intro ρ w Γx Λx hs hu hp
  have e111 : ρ 35 = cutv a2 ((x18).toNat) n3 c4 3 := (hp 0 rfl).1
  have e112 : ρ 36 = .int .i64 x88 := (hp 1 rfl).1
  refine WL.indexAddrV (l := (x18).toNat) hs (Λx.length + 0) (getApp rfl) UN100 TI23 e111 e112 hvx100 (fun ad101 hatad101 => ?_)
  exact WL.nil ⟨rfl, _, rfl, ⟨ad101, rfl, hatad101⟩, hs.cutG 0 0⟩ }
  {
  intro ρ w Γx Λx hs hu hp
  obtain ⟨ad114, e113, hatad114⟩ := (hp 2 rfl).1
  have e113 : ρ 37 = .pointer (some ad114) := e113
  refine WL.loadO hs (Λx.length + 0) (getApp rfl) TI23 (.inl rfl) hatad114 hxx100 e113 (fun v102 hs => ?_)
  obtain ⟨cs103, hl104, rfl⟩ := hs.aggv (n := 3) 0 rfl rfl rfl
  have hs := hs.add (it := vl t_index_Key x100 (.agg cs103.toArray)) fun ok hA => hA.get 0 rfl
  exact WL.nil ⟨rfl, _, rfl, ⟨cs103, rfl⟩, hs.cutG 1 1⟩ }
  {
  intro ρ w Γx Λx hs hu hp
  refine WL.move (v := cutv a2 ((x18).toNat) n3 c4 3) ((hu 4 rfl).trans h86_4) ?_
  exact WL.nil ⟨rfl, _, rfl, rfl, hs.cutG 0 0⟩ }
  {
  intro ρ w Γx Λx hs hu hp
  refine WL.move (v := .int .i64 x88) ((hu 5 rfl).trans h86_5) ?_
  exact WL.nil ⟨rfl, _, rfl, rfl, hs.cutG 0 0⟩ }
  {
  intro ρ w Γx Λx hs hu hp
  have e115 : ρ 40 = .int .i64 x88 := (hp 5 rfl).1
  refine WL.bin (v := .int .i64 x105) e115 rfl (ib_as ex105 (ib_sub _ _ _)) ?_
  exact WL.nil ⟨rfl, _, rfl, rfl, hs.cutG 0 0⟩ }
  {
  intro ρ w Γx Λx hs hu hp
  have e116 : ρ 39 = cutv a2 ((x18).toNat) n3 c4 3 := (hp 4 rfl).1
  have e117 : ρ 41 = .int .i64 x105 := (hp 6 rfl).1
  refine WL.indexAddrV (l := (x18).toNat) hs (Λx.length + 0) (getApp rfl) UN100 TI23 e116 e117 hvx106 (fun ad107 hatad107 => ?_)
  exact WL.nil ⟨rfl, _, rfl, ⟨ad107, rfl, hatad107⟩, hs.cutG 0 0⟩ }
  {
  intro ρ w Γx Λx hs hu hp
  obtain ⟨ad119, e118, hatad119⟩ := (hp 7 rfl).1
  have e118 : ρ 42 = .pointer (some ad119) := e118
  refine WL.loadO hs (Λx.length + 0) (getApp rfl) TI23 (.inl rfl) hatad119 hxx106 e118 (fun v108 hs => ?_)
  obtain ⟨cs109, hl110, rfl⟩ := hs.aggv (n := 3) 0 rfl rfl rfl
  have hs := hs.add (it := vl t_index_Key x106 (.agg cs109.toArray)) fun ok hA => hA.get 0 rfl
  exact WL.nil ⟨rfl, _, rfl, ⟨cs109, rfl⟩, hs.cutG 1 1⟩ }
  {
  intro ρ w Γx Λx hs hu hp
  obtain ⟨⟨cs120, e122r⟩, hm123⟩ := hp 3 rfl
  have e122 : ρ 38 = .agg cs120.toArray := e122r
  rw [e122r] at hm123
  have hs := hs.memo1 (it := vl t_index_Key x100 (.agg cs120.toArray)) (List.mem_append.2 (.inl (hm123 _ (List.mem_of_getElem? (i := 0) rfl))))
  have hl121 := hs.agglen (n := 3) 0 rfl rfl rfl
  obtain ⟨⟨cs124, e126r⟩, hm127⟩ := hp 8 rfl
  have e126 : ρ 43 = .agg cs124.toArray := e126r
  rw [e126r] at hm127
  have hs := hs.memo1 (it := vl t_index_Key x106 (.agg cs124.toArray)) (List.mem_cons_of_mem _ (List.mem_append.2 (.inl (hm127 _ (List.mem_of_getElem? (i := 0) rfl)))))
  have hl125 := hs.agglen (n := 3) 0 rfl rfl rfl
  obtain rfl := open_index_Key hs 1 rfl
  obtain rfl := open_index_Key hs 0 rfl
  refine WL.eqA e122 e126 EG23 (NQ23 (⟨x100.f_Type, x100.N, x100.S⟩ : index_Key) (⟨x106.f_Type, x106.N, x106.S⟩ : index_Key)) ?_
  exact WL.nil ⟨rfl, _, rfl, rfl, hs.cutG 0 2⟩ }
  {
  intro ρ w hs hu128 hp
  obtain ⟨⟨⟨⟨⟨⟨⟨⟨⟨⟨_, hp0_⟩, hp1_⟩, hp2_⟩, hp3_⟩, hp4_⟩, hp5_⟩, hp6_⟩, hp7_⟩, hp8_⟩, hp9_⟩ := hp
  have hs : St ok F w [vl t_index_Key x106 (ρ 43), vl t_index_Key x100 (ρ 38)] [own t_index_Key 23 (.slice a2 n3 c4) x85] := hs
  have e129 : ρ 44 = .bool (!decide ((⟨x100.f_Type, x100.N, x100.S⟩ : index_Key) = (⟨x106.f_Type, x106.N, x106.S⟩ : index_Key))) := hp9_
  obtain ⟨cs130, e132⟩ := hp8_
  have e132 : ρ 43 = .agg cs130.toArray := e132
  try rw [e132] at hs
  have e133 : ρ 41 = .int .i64 x105 := hp6_
  have e134 : ρ 40 = .int .i64 x88 := hp5_
  have e135 : ρ 39 = cutv a2 ((x18).toNat) n3 c4 3 := hp4_
  obtain ⟨cs136, e138⟩ := hp3_
  have e138 : ρ 38 = .agg cs136.toArray := e138
  try rw [e138] at hs
  have e139 : ρ 36 = .int .i64 x88 := hp1_
  have e140 : ρ 35 = cutv a2 ((x18).toNat) n3 c4 3 := hp0_
  have hl137 := hs.agglen (n := 3) 1 rfl rfl rfl
  have hl131 := hs.agglen (n := 3) 0 rfl rfl rfl
  refine WA.done (by kernel_rfl) ?_
  refine hK99 _ _ ?_
  rcases iteE hf with ⟨hc141, hf⟩ | ⟨hc141, hf⟩
  {
  refine W.cond_true (bool_tr e129 hc141) ?_
  refine W.seqK fun K142 hK142 => ?_
  refine W.region ?_
  refine WL.move (v := .slice a2 n3 c4) ((hu128 0 rfl).trans h86_0) ?_
  refine WL.move (v := .int .i64 x87) ((hu128 3 rfl).trans h86_3) ?_
  refine WL.move (v := cutv a2 ((x18).toNat) n3 c4 3) ((hu128 4 rfl).trans h86_4) ?_
  refine WL.move (v := .int .i64 x88) ((hu128 5 rfl).trans h86_5) ?_
  obtain ⟨x143, hvx143, hf⟩ := bindE hf; have hxx143 := idx_drop hvx143
  refine WL.indexAddrV (l := (x18).toNat) hs 0 rfl UN100 TI23 rfl rfl hvx143 (fun ad144 hatad144 => ?_)
  refine WL.loadO hs 0 rfl TI23 (.inl rfl) hatad144 hxx143 rfl (fun v145 hs => ?_)
  obtain ⟨cs146, hl147, rfl⟩ := hs.aggv (n := 3) 0 rfl rfl rfl
  obtain ⟨x148, hxx148, hf⟩ := bindE hf
  refine WL.indexAddrO hs 0 rfl UN100 TI23 rfl rfl hxx148 (fun ad149 hatad149 => ?_)
  obtain ⟨x150, exx150, hf⟩ := letE hf
  refine WL.storeO (y := x143) (vs := cs146) (zs := x150) hs 0 rfl TI23 hatad149 hxx148 rfl rfl rfl (fun ok hA => (R_agg (hA.get 0 rfl) rfl)) exx150 (fun w hs => ?_)
  refine WL.nil ?_
  refine hK142 _ _ ?_
  refine W.region ?_
  refine WL.move (v := .int .i64 x87) ((hu128 3 rfl).trans h86_3) ?_
  obtain ⟨x151, ex151, hf⟩ := letE hf
  refine WL.bin (v := .int .i64 x151) rfl rfl (ib_as ex151 (ib_add _ _ _)) ?_
  refine WL.assign (v := .int .i64 x151) rfl ?_
  refine WL.nil ?_
  exact Jk97 x150 x151 _ _ ((hu128 0 rfl).trans h86_0) rfl ((hu128 4 rfl).trans h86_4) ((hu128 5 rfl).trans h86_5) ((hs.mask [true]).pick []) hf }
  {
  refine W.cond_false (bool_tr e129 hc141) ?_
  refine W.skip ?_
  exact Jk97 x85 x87 _ _ ((hu128 0 rfl).trans h86_0) ((hu128 3 rfl).trans h86_3) ((hu128 4 rfl).trans h86_4) ((hu128 5 rfl).trans h86_5) ((hs.mask [true]).pick []) hf } } }
  {
  refine W.cond_false (bool_tr rfl hc92) ?_
  refine W.exit ?_
  have hr := Option.some.inj hf; subst hr
  have hr := hbbs89 _ rfl; subst hr
  have hf := hfs89
  exact Jk78 x85 x87 _ _ h86_0 h86_3 ((hs.mask [true]).pick []) hf } }
  {
  refine W.cond_false (bool_tr e59 hc71) ?_
  refine W.skip ?_
  exact Jk27 x16 x18 _ _ ((hu58 0 rfl).trans h17_0) ((hu58 3 rfl).trans h17_3) ((hs.mask [true]).pick []) hf } } }
  {
  refine W.cond_false (bool_tr rfl hc22) ?_
  refine W.exit ?_
  have hr := Option.some.inj hf; subst hr
  have hr := hbbs19 _ rfl; subst hr
  have hf := hfs19
  exact Jk13 x16 _ _ h17_0 ((hs.mask [true]).pick []) hf } }
theorem index_Keys.calls {ok : Nat → Prop} {w0 : World} {x1 : schema_Field} {x5 : fold_Object} {v2 : Value} {v6 : Value} {r : List index_Key} (hf : index_Keys x1 x5 = some r) (i0 : (vl t_schema_Field x1 v2).holds ok w0) (i1 : (vl t_fold_Object x5 v6).holds ok w0) :
    Calls Try.prog 46 #[v2, v6] w0 fun e w' => ∃ v, e = .returned v ∧ ∃ y : (Option Addr × Nat × Nat), v = .slice y.1 y.2.1 y.2.2 ∧ St ok (bz w0) w' [] [own t_index_Key 23 (.slice y.1 y.2.1 y.2.2) r] := by
  unfold index_Keys at hf
  refine calls_of_W (fn := Try.f46) (N := 80) Try.func46 rfl Try.ntmps46 rfl ?_
  have hs : St ok (bz w0) w0 [vl t_schema_Field x1 v2, vl t_fold_Object x5 v6] [] := St.init (All.cons i0 (All.cons i1 All.nil))
  clear i0 i1
  obtain ⟨cs3, hl4, rfl⟩ := hs.aggv (n := 4) 0 rfl rfl rfl
  obtain ⟨cs7, hl8, rfl⟩ := hs.aggv (n := 2) 1 rfl rfl rfl
  refine W.seqK fun K9 hK9 => ?_
  refine W.region ?_
  refine WL.box (vs := cs3) hs rfl rfl (fun g10 w hs => ?_)
  refine WL.box (vs := cs7) hs rfl rfl (fun g11 w hs => ?_)
  refine WL.assign (v := .slice none 0 0) rfl ?_
  refine WL.nil ?_
  refine hK9 _ _ ?_
  refine W.seqK fun K12 hK12 => ?_
  refine W.region ?_
  refine WL.loadAll hs 0 rfl TI80 rfl hl8 ?_
  refine WL.fieldAddr (m := 0) rfl FA49_0 rfl ?_
  refine WL.loadF (z := x1.Name) F_schema_Field_Name hs 1 rfl 0 rfl rfl TI9 (.inr rfl) rfl rfl (fun v13 hs => ?_)
  obtain rfl := hs.str 0 rfl
  obtain ⟨x14, hxx14, hf⟩ := bindE hf
  refine WL.call (vs := [.agg cs7.toArray, bstr x1.Name]) hs FN58 ⟨rfl, ⟨rfl, trivial⟩⟩ (fun ok hA => fold_FieldOf.calls (x1 := x5) (x5 := x1.Name) hxx14 (hA.get 2 rfl)) ?_
  rintro ⟨a15, n16, c17⟩ w hs
  refine WL.alloc hs ZV85 (fun g18 w hs => ?_)
  refine WL.storeAll (vs := [bstr x14.Name, .bool x14.Register.Set, .int .i64 x14.Register.Tag, .int .i64 x14.Register.Client, .int .i64 x14.Register.Seq, .int .i64 x14.Register.N, bstr x14.Register.S, .bool x14.HasMax, .int .i64 x14.Max, .int .i64 x14.Sum, .slice a15 n16 c17, .bool x14.Flag]) hs 0 rfl TI85 rfl rfl rfl rfl (ones_of rfl) rfl (fun w hs => ?_)
  refine WL.nil ?_
  refine hK12 _ _ ?_
  refine W.seqK fun K19 hK19 => ?_
  refine W.region ?_
  refine WL.assign (v := .slice none 0 0) rfl ?_
  refine WL.nil ?_
  refine hK19 _ _ ?_
  refine W.seqK fun K20 hK20 => ?_
  have hs := hs.ownNil t_index_Key 23
  have Jk26 : ∀ (x22 : List index_Key) (a23 : Option Addr) (c24 : Nat) (n25 : Nat) (ρ : Env) (w : World), ρ 6 = .slice a23 n25 c24 → St ok (bz w0) w [] [own t_index_Key 23 (.slice a23 n25 c24) x22] → index_Keys.j1 x22 = some r → K20 ρ w := by
    intro x22 a23 c24 n25 ρ w h21_6 hs hf
    refine hK20 _ _ ?_
    unfold index_Keys.j1 at hf
    refine W.seqK fun K27 hK27 => ?_
    refine W.region ?_
    refine WL.move (v := .slice a23 n25 c24) h21_6 ?_
    obtain ⟨x28, hxx28, hf⟩ := bindE hf
    have hs := hs.front 0 rfl
    refine WL.callO (vs := [.slice a23 n25 c24, .func (.func 5) #[] #[]]) [own t_index_Key 23 (.slice a23 n25 c24) x22] (Λb := []) hs FN59 ⟨rfl, ⟨rfl, trivial⟩⟩ (fun ok F hs => slices_SortFunc_Key.calls (a0 := a23) (n0 := n25) (c0 := c24) (x1 := x22) hxx28 (hs.pick [])) ?_
    rintro _ w hs
    refine WL.nil ?_
    refine hK27 _ _ ?_
    refine W.seqK fun K29 hK29 => ?_
    refine W.region ?_
    refine WL.move (v := .slice a23 n25 c24) h21_6 ?_
    obtain ⟨x30, hxx30, hf⟩ := bindE hf
    have hs := hs.front 0 rfl
    refine WL.callO (vs := [.slice a23 n25 c24]) [own t_index_Key 23 (.slice a23 n25 c24) x28] (Λb := []) hs FN60 ⟨rfl, trivial⟩ (fun ok F hs => slices_Compact_Key.calls (a2 := a23) (n3 := n25) (c4 := c24) (x1 := x28) hxx30 (hs.pick [])) ?_
    rintro ⟨a31, n32, c33⟩ w hs
    refine WL.assign (v := .slice a31 n32 c33) rfl ?_
    refine WL.nil ?_
    refine hK29 _ _ ?_
    refine W.ret ?_
    have hr := Option.some.inj hf; subst hr
    exact ⟨_, resOk_one rfl rfl, (a31, n32, c33), rfl, (hs.mask [true]).pick []⟩
  refine W.block ?_
  refine W.seqK fun K34 hK34 => ?_
  have Jk37 : ∀ (x36 : Bool) (ρ : Env) (w : World), ρ 2 = .pointer (some ⟨g10, 0, none⟩) → ρ 5 = .pointer (some ⟨g18, 0, none⟩) → ρ 6 = .slice none 0 0 → ρ 13 = .bool x36 → St ok (bz w0) w [vl t_schema_Field x1 (.agg cs3.toArray)] [own t_index_Key 23 (.slice none 0 0) [], blk g18 85 [bstr x14.Name, .bool x14.Register.Set, .int .i64 x14.Register.Tag, .int .i64 x14.Register.Client, .int .i64 x14.Register.Seq, .int .i64 x14.Register.N, bstr x14.Register.S, .bool x14.HasMax, .int .i64 x14.Max, .int .i64 x14.Sum, .slice a15 n16 c17, .bool x14.Flag], own tStr 9 (.slice a15 n16 c17) x14.Elems, blk g10 49 cs3] → index_Keys.j3 x1 x14 x36 = some r → K34 ρ w := by
    intro x36 ρ w h35_2 h35_5 h35_6 h35_13 hs hf
    refine hK34 _ _ ?_
    unfold index_Keys.j3 at hf
    rcases iteE hf with ⟨hc38, hf⟩ | ⟨hc38, hf⟩
    {
    refine W.cond_true (bool_tr h35_13 hc38) ?_
    refine W.region ?_
    refine WL.move (v := .slice none 0 0) h35_6 ?_
    refine WL.fieldAddr (m := 2) h35_2 FA49_2 rfl ?_
    refine WL.loadF (z := x1.f_Type) F_schema_Field_f_Type hs 3 rfl 0 rfl rfl TI3 (.inr rfl) rfl rfl (fun v39 hs => ?_)
    obtain rfl := hs.int 0 rfl
    refine WL.fieldAddr (m := 1) h35_5 FA85_1 rfl ?_
    refine WL.fieldAddr (m := 5) rfl FA83_4 rfl ?_
    refine WL.load1 (v := .int .i64 x14.Register.N) hs 1 rfl TI2 rfl rfl ?_
    refine WL.build (vs := [(0, .int .i64 x1.f_Type), (1, .int .i64 x14.Register.N)]) (cs := [.int .i64 x1.f_Type, .int .i64 x14.Register.N, bstr []]) ⟨⟨rfl, rfl⟩, ⟨⟨rfl, rfl⟩, trivial⟩⟩ (bld PL23 rfl) ?_
    refine WL.buildSlice (n := 1) (vs := [(0, .agg ([.int .i64 x1.f_Type, .int .i64 x14.Register.N, bstr []] : List Value).toArray)]) (cs := [.int .i64 x1.f_Type, .int .i64 x14.Register.N, bstr []]) hs ⟨⟨rfl, rfl⟩, trivial⟩ (bls PS100 (by decide) rfl) (fun g40 w hs => ?_)
    obtain ⟨x41, hxx41, hf⟩ := bindE hf
    obtain ⟨hbx41, hex41⟩ := appE hxx41
    refine WL.append (ys := [(⟨x1.f_Type, x14.Register.N, []⟩ : index_Key)]) (zs := x41) hs 1 rfl 0 rfl UN100 EI23 rfl rfl (fun ok hA => (Cells.one (T := t_index_Key) (show t_index_Key.R ok _ (⟨x1.f_Type, x14.Register.N, []⟩ : index_Key) _ from ⟨[.int .i64 x1.f_Type], ([.int .i64 x14.Register.N, bstr []]), rfl, rfl, ⟨[.int .i64 x14.Register.N], ([bstr []]), rfl, rfl, rfl⟩⟩))) hbx41 (by omega) hex41 (fun v42 w hs => ?_)
    obtain ⟨a43, n45, c44, rfl⟩ := hs.ownv3 1 rfl
    refine WL.assign (v := .slice a43 n45 c44) rfl ?_
    refine WL.nil ?_
    exact Jk26 x41 a43 c44 n45 _ _ rfl ((hs.mask [false, true]).pick []) hf }
    {
    refine W.cond_false (bool_tr h35_13 hc38) ?_
    refine W.seqK fun K46 hK46 => ?_
    have Jk49 : ∀ (x48 : Bool) (ρ : Env) (w : World), ρ 2 = .pointer (some ⟨g10, 0, none⟩) → ρ 5 = .pointer (some ⟨g18, 0, none⟩) → ρ 6 = .slice none 0 0 → ρ 36 = .bool x48 → St ok (bz w0) w [vl t_schema_Field x1 (.agg cs3.toArray)] [own t_index_Key 23 (.slice none 0 0) [], blk g18 85 [bstr x14.Name, .bool x14.Register.Set, .int .i64 x14.Register.Tag, .int .i64 x14.Register.Client, .int .i64 x14.Register.Seq, .int .i64 x14.Register.N, bstr x14.Register.S, .bool x14.HasMax, .int .i64 x14.Max, .int .i64 x14.Sum, .slice a15 n16 c17, .bool x14.Flag], own tStr 9 (.slice a15 n16 c17) x14.Elems, blk g10 49 cs3] → index_Keys.j2 x1 x14 x48 = some r → K46 ρ w := by
      intro x48 ρ w h47_2 h47_5 h47_6 h47_36 hs hf
      refine hK46 _ _ ?_
      unfold index_Keys.j2 at hf
      rcases iteE hf with ⟨hc50, hf⟩ | ⟨hc50, hf⟩
      {
      refine W.cond_true (bool_tr h47_36 hc50) ?_
      refine W.region ?_
      refine WL.move (v := .slice none 0 0) h47_6 ?_
      refine WL.fieldAddr (m := 2) h47_2 FA49_2 rfl ?_
      refine WL.loadF (z := x1.f_Type) F_schema_Field_f_Type hs 3 rfl 0 rfl rfl TI3 (.inr rfl) rfl rfl (fun v51 hs => ?_)
      obtain rfl := hs.int 0 rfl
      refine WL.fieldAddr (m := 1) h47_5 FA85_1 rfl ?_
      refine WL.fieldAddr (m := 6) rfl FA83_5 rfl ?_
      refine WL.load1 (v := bstr x14.Register.S) hs 1 rfl TI9 rfl rfl ?_
      refine WL.build (vs := [(0, .int .i64 x1.f_Type), (2, bstr x14.Register.S)]) (cs := [.int .i64 x1.f_Type, .int .i64 0, bstr x14.Register.S]) ⟨⟨rfl, rfl⟩, ⟨⟨rfl, rfl⟩, trivial⟩⟩ (bld PL23 rfl) ?_
      refine WL.buildSlice (n := 1) (vs := [(0, .agg ([.int .i64 x1.f_Type, .int .i64 0, bstr x14.Register.S] : List Value).toArray)]) (cs := [.int .i64 x1.f_Type, .int .i64 0, bstr x14.Register.S]) hs ⟨⟨rfl, rfl⟩, trivial⟩ (bls PS100 (by decide) rfl) (fun g52 w hs => ?_)
      obtain ⟨x53, hxx53, hf⟩ := bindE hf
      obtain ⟨hbx53, hex53⟩ := appE hxx53
      refine WL.append (ys := [(⟨x1.f_Type, 0, x14.Register.S⟩ : index_Key)]) (zs := x53) hs 1 rfl 0 rfl UN100 EI23 rfl rfl (fun ok hA => (Cells.one (T := t_index_Key) (show t_index_Key.R ok _ (⟨x1.f_Type, 0, x14.Register.S⟩ : index_Key) _ from ⟨[.int .i64 x1.f_Type], [.int .i64 0, bstr x14.Register.S], rfl, rfl, ⟨[.int .i64 0], [bstr x14.Register.S], rfl, rfl, rfl⟩⟩))) hbx53 (by omega) hex53 (fun v54 w hs => ?_)
      obtain ⟨a55, n57, c56, rfl⟩ := hs.ownv3 1 rfl
      refine WL.assign (v := .slice a55 n57 c56) rfl ?_
      refine WL.nil ?_
      exact Jk26 x53 a55 c56 n57 _ _ rfl ((hs.mask [false, true]).pick []) hf }
      {
      refine W.cond_false (bool_tr h47_36 hc50) ?_
      refine W.seqK fun K58 hK58 => ?_
      refine W.region ?_
      refine WL.fieldAddr (m := 1) h47_2 FA49_1 rfl ?_
      refine WL.loadF (z := x1.Kind) F_schema_Field_Kind hs 3 rfl 0 rfl rfl TI3 (.inr rfl) rfl rfl (fun v59 hs => ?_)
      obtain rfl := hs.int 0 rfl
      refine WL.bin (v := .bool (x1.Kind == 4)) rfl rfl (ib_eql _ _ _) ?_
      refine WL.assign (v := .bool (x1.Kind == 4)) rfl ?_
      refine WL.nil ?_
      refine hK58 _ _ ?_
      rcases iteE hf with ⟨hc60, hf⟩ | ⟨hc60, hf⟩
      {
      refine W.cond_true (bool_tr rfl hc60) ?_
      refine W.seqK fun K61 hK61 => ?_
      refine W.region ?_
      refine WL.fieldAddr (m := 10) h47_5 FA85_5 rfl ?_
      refine WL.load1 (v := .slice a15 n16 c17) hs 1 rfl TI32 rfl rfl ?_
      refine WL.len (v := .slice a15 n16 c17) rfl (len_own hs 2 rfl UN32) ?_
      refine WL.move (v := .int .i64 0) rfl ?_
      refine WL.nil ?_
      refine hK61 _ _ ?_
      refine W.block ?_
      obtain ⟨bs68, hbs68, hfs68⟩ := bindE hf
      refine W.loop hbs68 (fun s ρ w => match s with | (x63, x67) => ∃ (a64 : Option Addr), ∃ (c65 : Nat), ∃ (n66 : Nat), ρ 6 = .slice a64 n66 c65 ∧ ρ 64 = .slice a15 n16 c17 ∧ ρ 65 = .int .i64 ((x14.Elems).length : Int) ∧ ρ 66 = .int .i64 x67 ∧ St ok (bz w0) w [] [own t_index_Key 23 (.slice a64 n66 c65) x63, own tStr 9 (.slice a15 n16 c17) x14.Elems]) ⟨none, 0, 0, h47_6, rfl, rfl, rfl, (hs.mask [true, false, true]).pick []⟩ ?_
      intro s ρ w os68 hI hf hbbs68
      obtain ⟨x63, x67⟩ := s
      obtain ⟨a64, c65, n66, h62_6, h62_64, h62_65, h62_66, hs⟩ := hI
      unfold index_Keys.l1 at hf
      refine W.seqK fun K69 hK69 => ?_
      refine W.region ?_
      refine WL.bin (v := .bool (decide (x67 < ((x14.Elems).length : Int)))) h62_66 h62_65 (ib_lss _ _ _) ?_
      refine WL.nil ?_
      refine hK69 _ _ ?_
      refine W.seqK fun K70 hK70 => ?_
      rcases iteE hf with ⟨hc71, hf⟩ | ⟨hc71, hf⟩
      {
      refine W.cond_true (bool_tr rfl hc71) ?_
      refine W.skip ?_
      refine hK70 _ _ ?_
      refine W.seqK fun K72 hK72 => ?_
      refine W.block ?_
      refine W.seqK fun K73 hK73 => ?_
      refine W.region ?_
      obtain ⟨x74, hxx74, hf⟩ := bindE hf
      refine WL.indexAddrO hs 1 rfl UN32 TI9 h62_64 h62_66 hxx74 (fun ad75 hatad75 => ?_)
      refine WL.loadO hs 1 rfl TI9 (.inr rfl) hatad75 hxx74 rfl (fun v76 hs => ?_)
      obtain rfl := hs.str 0 rfl
      refine WL.assign (v := bstr x74) rfl ?_
      refine WL.nil ?_
      refine hK73 _ _ ?_
      refine W.region ?_
      refine WL.move (v := .slice a64 n66 c65) h62_6 ?_
      refine WL.move (v := bstr x74) rfl ?_
      refine WL.build (vs := [(0, .int .i64 2), (2, bstr x74)]) (cs := [.int .i64 2, .int .i64 0, bstr x74]) ⟨⟨rfl, rfl⟩, ⟨⟨rfl, rfl⟩, trivial⟩⟩ (bld PL23 rfl) ?_
      refine WL.buildSlice (n := 1) (vs := [(0, .agg ([.int .i64 2, .int .i64 0, bstr x74] : List Value).toArray)]) (cs := [.int .i64 2, .int .i64 0, bstr x74]) hs ⟨⟨rfl, rfl⟩, trivial⟩ (bls PS100 (by decide) rfl) (fun g77 w hs => ?_)
      obtain ⟨x78, hxx78, hf⟩ := bindE hf
      obtain ⟨hbx78, hex78⟩ := appE hxx78
      refine WL.append (ys := [(⟨2, 0, x74⟩ : index_Key)]) (zs := x78) hs 1 rfl 0 rfl UN100 EI23 rfl rfl (fun ok hA => (Cells.one (T := t_index_Key) (show t_index_Key.R ok _ (⟨2, 0, x74⟩ : index_Key) _ from ⟨[.int .i64 2], [.int .i64 0, bstr x74], rfl, rfl, ⟨[.int .i64 0], [bstr x74], rfl, rfl, rfl⟩⟩))) hbx78 (by omega) hex78 (fun v79 w hs => ?_)
      obtain ⟨a80, n82, c81, rfl⟩ := hs.ownv3 1 rfl
      refine WL.assign (v := .slice a80 n82 c81) rfl ?_
      refine WL.nil ?_
      refine hK72 _ _ ?_
      refine W.region ?_
      obtain ⟨x83, ex83, hf⟩ := letE hf
      refine WL.bin (v := .int .i64 x83) h62_66 rfl (ib_as ex83 (ib_add _ _ _)) ?_
      refine WL.move (v := .int .i64 x83) rfl ?_
      refine WL.nil ?_
      exact ⟨_, (Option.some.inj hf).symm, a80, c81, n82, rfl, h62_64, h62_65, rfl, (hs.mask [false, true, true]).pick []⟩ }
      {
      refine W.cond_false (bool_tr rfl hc71) ?_
      refine W.exit ?_
      have hr := Option.some.inj hf; subst hr
      have hr := hbbs68 _ rfl; subst hr
      have hf := hfs68
      exact Jk26 x63 a64 c65 n66 _ _ h62_6 ((hs.mask [true]).pick []) hf } }
      {
      refine W.cond_false (bool_tr rfl hc60) ?_
      refine W.skip ?_
      exact Jk26 [] none 0 0 _ _ h47_6 ((hs.mask [true]).pick []) hf } }
    refine W.region ?_
    refine WL.fieldAddr (m := 1) h35_2 FA49_1 rfl ?_
    refine WL.loadF (z := x1.Kind) F_schema_Field_Kind hs 3 rfl 0 rfl rfl TI3 (.inr rfl) rfl rfl (fun v85 hs => ?_)
    obtain rfl := hs.int 0 rfl
    refine WL.bin (v := .bool (x1.Kind == 1)) rfl rfl (ib_eql _ _ _) ?_
    refine WL.move (v := .bool (x1.Kind == 1)) rfl ?_
    rcases iteE hf with ⟨hc86, hf⟩ | ⟨hc86, hf⟩
    {
    refine WL.fieldAddr (m := 1) h35_5 FA85_1 rfl ?_ (hg := (wanted_of rfl rfl (bool_tr rfl hc86)).trans rfl)
    refine WL.fieldAddr (m := 1) rfl FA83_0 rfl ?_ (hg := (wanted_of rfl rfl (bool_tr rfl hc86)).trans rfl)
    refine WL.load1 (v := .bool x14.Register.Set) hs 1 rfl TI4 rfl rfl ?_ (hg := (wanted_of rfl rfl (bool_tr rfl hc86)).trans rfl)
    refine WL.pickT (v := .bool x14.Register.Set) (bool_tr rfl hc86) rfl ?_
    refine WL.move (v := .bool x14.Register.Set) rfl ?_
    rcases iteE hf with ⟨hc87, hf⟩ | ⟨hc87, hf⟩
    {
    refine WL.fieldAddr (m := 2) h35_2 FA49_2 rfl ?_ (hg := (wanted_of rfl rfl (bool_tr rfl hc87)).trans rfl)
    refine WL.loadF (z := x1.f_Type) F_schema_Field_f_Type hs 3 rfl 1 rfl rfl TI3 (.inr rfl) rfl rfl (fun v88 hs => ?_) (hg := (wanted_of rfl rfl (bool_tr rfl hc87)).trans rfl)
    obtain rfl := hs.int 0 rfl
    refine WL.bin (v := .bool (x1.f_Type == 2)) rfl rfl (ib_eql _ _ _) ?_ (hg := (wanted_of rfl rfl (bool_tr rfl hc87)).trans rfl)
    refine WL.pickT (v := .bool (x1.f_Type == 2)) (bool_tr rfl hc87) rfl ?_
    refine WL.assign (v := .bool (x1.f_Type == 2)) rfl ?_
    refine WL.nil ?_
    exact Jk49 (x1.f_Type == 2) _ _ h35_2 h35_5 h35_6 rfl ((hs.mask [true, true, true, true]).pick [2]) hf }
    {
    refine WL.pass ((wanted_of rfl rfl (bool_tr rfl hc87)).trans rfl) rfl ?_
    refine WL.pass ((wanted_of rfl rfl (bool_tr rfl hc87)).trans rfl) rfl ?_
    refine WL.pass ((wanted_of rfl rfl (bool_tr rfl hc87)).trans rfl) rfl ?_
    refine WL.pickF (v := .bool false) (bool_tr rfl hc87) rfl ?_
    refine WL.assign (v := .bool false) rfl ?_
    refine WL.nil ?_
    exact Jk49 false _ _ h35_2 h35_5 h35_6 rfl ((hs.mask [true, true, true, true]).pick [1]) hf } }
    {
    refine WL.pass ((wanted_of rfl rfl (bool_tr rfl hc86)).trans rfl) rfl ?_
    refine WL.pass ((wanted_of rfl rfl (bool_tr rfl hc86)).trans rfl) rfl ?_
    refine WL.pass ((wanted_of rfl rfl (bool_tr rfl hc86)).trans rfl) rfl ?_
    refine WL.pickF (v := .bool false) (bool_tr rfl hc86) rfl ?_
    refine WL.move (v := .bool false) rfl ?_
    refine WL.pass ((wanted_of rfl rfl rfl).trans rfl) rfl ?_
    refine WL.pass ((wanted_of rfl rfl rfl).trans rfl) rfl ?_
    refine WL.pass ((wanted_of rfl rfl rfl).trans rfl) rfl ?_
    refine WL.pickF (v := .bool false) rfl rfl ?_
    refine WL.assign (v := .bool false) rfl ?_
    refine WL.nil ?_
    exact Jk49 false _ _ h35_2 h35_5 h35_6 rfl ((hs.mask [true, true, true, true]).pick [1]) hf } }
  refine W.region ?_
  refine WL.fieldAddr (m := 1) rfl FA49_1 rfl ?_
  refine WL.loadF (z := x1.Kind) F_schema_Field_Kind hs 4 rfl 1 rfl rfl TI3 (.inr rfl) rfl rfl (fun v89 hs => ?_)
  obtain rfl := hs.int 0 rfl
  refine WL.bin (v := .bool (x1.Kind == 1)) rfl rfl (ib_eql _ _ _) ?_
  refine WL.move (v := .bool (x1.Kind == 1)) rfl ?_
  rcases iteE hf with ⟨hc90, hf⟩ | ⟨hc90, hf⟩
  {
  refine WL.fieldAddr (m := 1) rfl FA85_1 rfl ?_ (hg := (wanted_of rfl rfl (bool_tr rfl hc90)).trans rfl)
  refine WL.fieldAddr (m := 1) rfl FA83_0 rfl ?_ (hg := (wanted_of rfl rfl (bool_tr rfl hc90)).trans rfl)
  refine WL.load1 (v := .bool x14.Register.Set) hs 1 rfl TI4 rfl rfl ?_ (hg := (wanted_of rfl rfl (bool_tr rfl hc90)).trans rfl)
  refine WL.pickT (v := .bool x14.Register.Set) (bool_tr rfl hc90) rfl ?_
  refine WL.move (v := .bool x14.Register.Set) rfl ?_
  rcases iteE hf with ⟨hc91, hf⟩ | ⟨hc91, hf⟩
  {
  refine WL.fieldAddr (m := 2) rfl FA49_2 rfl ?_ (hg := (wanted_of rfl rfl (bool_tr rfl hc91)).trans rfl)
  refine WL.loadF (z := x1.f_Type) F_schema_Field_f_Type hs 4 rfl 2 rfl rfl TI3 (.inr rfl) rfl rfl (fun v92 hs => ?_) (hg := (wanted_of rfl rfl (bool_tr rfl hc91)).trans rfl)
  obtain rfl := hs.int 0 rfl
  refine WL.bin (v := .bool (x1.f_Type == 1)) rfl rfl (ib_eql _ _ _) ?_ (hg := (wanted_of rfl rfl (bool_tr rfl hc91)).trans rfl)
  refine WL.pickT (v := .bool (x1.f_Type == 1)) (bool_tr rfl hc91) rfl ?_
  refine WL.assign (v := .bool (x1.f_Type == 1)) rfl ?_
  refine WL.nil ?_
  exact Jk37 (x1.f_Type == 1) _ _ rfl rfl rfl rfl ((hs.mask [true, true, true, false, true]).pick [3]) hf }
  {
  refine WL.pass ((wanted_of rfl rfl (bool_tr rfl hc91)).trans rfl) rfl ?_
  refine WL.pass ((wanted_of rfl rfl (bool_tr rfl hc91)).trans rfl) rfl ?_
  refine WL.pass ((wanted_of rfl rfl (bool_tr rfl hc91)).trans rfl) rfl ?_
  refine WL.pickF (v := .bool false) (bool_tr rfl hc91) rfl ?_
  refine WL.assign (v := .bool false) rfl ?_
  refine WL.nil ?_
  exact Jk37 false _ _ rfl rfl rfl rfl ((hs.mask [true, true, true, false, true]).pick [2]) hf } }
  {
  refine WL.pass ((wanted_of rfl rfl (bool_tr rfl hc90)).trans rfl) rfl ?_
  refine WL.pass ((wanted_of rfl rfl (bool_tr rfl hc90)).trans rfl) rfl ?_
  refine WL.pass ((wanted_of rfl rfl (bool_tr rfl hc90)).trans rfl) rfl ?_
  refine WL.pickF (v := .bool false) (bool_tr rfl hc90) rfl ?_
  refine WL.move (v := .bool false) rfl ?_
  refine WL.pass ((wanted_of rfl rfl rfl).trans rfl) rfl ?_
  refine WL.pass ((wanted_of rfl rfl rfl).trans rfl) rfl ?_
  refine WL.pass ((wanted_of rfl rfl rfl).trans rfl) rfl ?_
  refine WL.pickF (v := .bool false) rfl rfl ?_
  refine WL.assign (v := .bool false) rfl ?_
  refine WL.nil ?_
  exact Jk37 false _ _ rfl rfl rfl rfl ((hs.mask [true, true, true, false, true]).pick [2]) hf }
theorem index_Keys.callc {ok : Nat → Prop} {w0 : World} {x1 : schema_Field} {x5 : fold_Object} {v2 : Value} {v6 : Value} {r : List index_Key} (hf : index_Keys x1 x5 = some r) (i0 : (vl t_schema_Field x1 v2).holds ok w0) (i1 : (vl t_fold_Object x5 v6).holds ok w0) :
    Calls Try.prog 46 #[v2, v6] w0 fun e w' => ∃ v, e = .returned v ∧ ∃ y : (Option Addr × Nat), v = .slice y.1 r.length y.2 ∧ St ok (bz w0) w' [vl (tSlice t_index_Key) r (.slice y.1 r.length y.2)] [] := by
  refine (index_Keys.calls (ok := ok) (w0 := w0) (x1 := x1) (x5 := x5) hf i0 i1).mono ?_
  rintro e w' ⟨v, rfl, ⟨a93, n94, c95⟩, rfl, hs⟩
  obtain rfl := hs.ownLen 0 rfl
  have hs := hs.freezeOwn 0 rfl
  exact ⟨_, rfl, (a93, c95), rfl, hs.pick [0]⟩
theorem index_pairs.calls {ok : Nat → Prop} {w0 : World} {x1 : schema_Field} {x5 : List fold_Object} {v2 : Value} {a6 : Option Addr} {c7 : Nat} {r : List index_pair} (hf : index_pairs x1 x5 = some r) (i0 : (vl t_schema_Field x1 v2).holds ok w0) (i1 : (vl (tSlice t_fold_Object) x5 (.slice a6 x5.length c7)).holds ok w0) :
    Calls Try.prog 31 #[v2, .slice a6 x5.length c7] w0 fun e w' => ∃ v, e = .returned v ∧ ∃ y : (Option Addr × Nat × Nat), v = .slice y.1 y.2.1 y.2.2 ∧ St ok (bz w0) w' [] [own t_index_pair 95 (.slice y.1 y.2.1 y.2.2) r] := by
  unfold index_pairs at hf
  refine calls_of_W (fn := Try.f31) (N := 34) Try.func31 rfl Try.ntmps31 rfl ?_
  have hs : St ok (bz w0) w0 [vl t_schema_Field x1 v2, vl (tSlice t_fold_Object) x5 (.slice a6 x5.length c7)] [] := St.init (All.cons i0 (All.cons i1 All.nil))
  clear i0 i1
  obtain ⟨cs3, hl4, rfl⟩ := hs.aggv (n := 4) 0 rfl rfl rfl
  refine W.seqK fun K8 hK8 => ?_
  refine W.region ?_
  refine WL.box (vs := cs3) hs rfl rfl (fun g9 w hs => ?_)
  refine WL.assign (v := .slice none 0 0) rfl ?_
  refine WL.nil ?_
  refine hK8 _ _ ?_
  refine W.seqK fun K10 hK10 => ?_
  refine W.region ?_
  refine WL.assign (v := .slice none 0 0) rfl ?_
  refine WL.nil ?_
  refine hK10 _ _ ?_
  refine W.seqK fun K11 hK11 => ?_
  have hs := hs.ownNil t_index_pair 95
  have Jk17 : ∀ (x13 : List index_pair) (a14 : Option Addr) (c15 : Nat) (n16 : Nat) (ρ : Env) (w : World), ρ 5 = .slice a14 n16 c15 → St ok (bz w0) w [] [own t_index_pair 95 (.slice a14 n16 c15) x13] → index_pairs.j1 x13 = some r → K11 ρ w := by
    intro x13 a14 c15 n16 ρ w h12_5 hs hf
    refine hK11 _ _ ?_
    unfold index_pairs.j1 at hf
    refine W.seqK fun K18 hK18 => ?_
    refine W.region ?_
    refine WL.move (v := .slice a14 n16 c15) h12_5 ?_
    refine WL.assign (v := .slice a14 n16 c15) rfl ?_
    refine WL.nil ?_
    refine hK18 _ _ ?_
    refine W.ret ?_
    have hr := Option.some.inj hf; subst hr
    exact ⟨_, resOk_one rfl rfl, (a14, n16, c15), rfl, (hs.mask [true]).pick []⟩
  refine W.seqK fun K19 hK19 => ?_
  refine W.region ?_
  refine WL.move (v := .slice a6 x5.length c7) rfl ?_
  refine WL.len (v := .slice a6 x5.length c7) rfl (len_slice UN39) ?_
  refine WL.move (v := .int .i64 0) rfl ?_
  refine WL.nil ?_
  refine hK19 _ _ ?_
  refine W.block ?_
  obtain ⟨bs26, hbs26, hfs26⟩ := bindE hf
  refine W.loop hbs26 (fun s ρ w => match s with | (x21, x25) => ∃ (a22 : Option Addr), ∃ (c23 : Nat), ∃ (n24 : Nat), ρ 2 = .pointer (some ⟨g9, 0, none⟩) ∧ ρ 5 = .slice a22 n24 c23 ∧ ρ 10 = .slice a6 x5.length c7 ∧ ρ 11 = .int .i64 (x5.length : Int) ∧ ρ 12 = .int .i64 x25 ∧ St ok (bz w0) w [vl (tSlice t_fold_Object) x5 (.slice a6 x5.length c7), vl t_schema_Field x1 (.agg cs3.toArray)] [own t_index_pair 95 (.slice a22 n24 c23) x21, blk g9 49 cs3]) ⟨none, 0, 0, rfl, rfl, rfl, rfl, rfl, (hs.mask [true, true]).pick [1, 0]⟩ ?_
  intro s ρ w os26 hI hf hbbs26
  obtain ⟨x21, x25⟩ := s
  obtain ⟨a22, c23, n24, h20_2, h20_5, h20_10, h20_11, h20_12, hs⟩ := hI
  unfold index_pairs.l2 at hf
  refine W.seqK fun K27 hK27 => ?_
  refine W.region ?_
  refine WL.bin (v := .bool (decide (x25 < (x5.length : Int)))) h20_12 h20_11 (ib_lss _ _ _) ?_
  refine WL.nil ?_
  refine hK27 _ _ ?_
  refine W.seqK fun K28 hK28 => ?_
  rcases iteE hf with ⟨hc29, hf⟩ | ⟨hc29, hf⟩
  {
  refine W.cond_true (bool_tr rfl hc29) ?_
  refine W.skip ?_
  refine hK28 _ _ ?_
  refine W.seqK fun K30 hK30 => ?_
  have Jk36 : ∀ (x32 : List index_pair) (a33 : Option Addr) (c34 : Nat) (n35 : Nat) (ρ : Env) (w : World), ρ 2 = .pointer (some ⟨g9, 0, none⟩) → ρ 5 = .slice a33 n35 c34 → ρ 10 = .slice a6 x5.length c7 → ρ 11 = .int .i64 (x5.length : Int) → ρ 12 = .int .i64 x25 → St ok (bz w0) w [vl (tSlice t_fold_Object) x5 (.slice a6 x5.length c7), vl t_schema_Field x1 (.agg cs3.toArray)] [own t_index_pair 95 (.slice a33 n35 c34) x32, blk g9 49 cs3] → index_pairs.j2 x25 x32 = some os26 → K30 ρ w := by
    intro x32 a33 c34 n35 ρ w h31_2 h31_5 h31_10 h31_11 h31_12 hs hf
    refine hK30 _ _ ?_
    unfold index_pairs.j2 at hf
    refine W.region ?_
    obtain ⟨x37, ex37, hf⟩ := letE hf
    refine WL.bin (v := .int .i64 x37) h31_12 rfl (ib_as ex37 (ib_add _ _ _)) ?_
    refine WL.move (v := .int .i64 x37) rfl ?_
    refine WL.nil ?_
    exact ⟨_, (Option.some.inj hf).symm, a33, c34, n35, h31_2, h31_5, h31_10, h31_11, rfl, (hs.mask [true, true]).pick [0, 1]⟩
  refine W.block ?_
  refine W.seqK fun K38 hK38 => ?_
  refine W.region ?_
  obtain ⟨x39, hxx39, hf⟩ := bindE hf
  refine WL.indexAddr hs 0 rfl UN39 TI80 h20_10 h20_12 hxx39 (fun ad40 hs => ?_)
  refine WL.loadP hs 0 rfl TI80 (.inl rfl) rfl (fun v41 hs => ?_)
  obtain ⟨cs42, hl43, rfl⟩ := hs.aggv (n := 2) 0 rfl rfl rfl
  refine WL.alloc hs ZV80 (fun g44 w hs => ?_)
  refine WL.storeAll (vs := cs42) hs 0 rfl TI80 rfl rfl rfl hl43 (hs.ones 0 rfl rfl) rfl (fun w hs => ?_)
  refine WL.nil ?_
  refine hK38 _ _ ?_
  refine W.seqK fun K45 hK45 => ?_
  refine W.region ?_
  refine WL.loadAll hs 2 rfl TI49 h20_2 hl4 ?_
  refine WL.loadAll hs 0 rfl TI80 rfl hl43 ?_
  obtain ⟨x46, hxx46, hf⟩ := bindE hf
  refine WL.call (vs := [.agg cs3.toArray, .agg cs42.toArray]) hs FN46 ⟨rfl, ⟨rfl, trivial⟩⟩ (fun ok hA => index_Keys.calls (x1 := x1) (x5 := x39) hxx46 (hA.get 3 rfl) (hA.get 0 rfl)) ?_
  rintro ⟨a47, n48, c49⟩ w hs
  refine WL.len (v := .slice a47 n48 c49) rfl (len_own hs 0 rfl UN100) ?_
  refine WL.move (v := .int .i64 0) rfl ?_
  refine WL.nil ?_
  refine hK45 _ _ ?_
  refine W.block ?_
  obtain ⟨bs56, hbs56, hfs56⟩ := bindE hf
  refine W.loop hbs56 (fun s ρ w => match s with | (x51, x55) => ∃ (a52 : Option Addr), ∃ (c53 : Nat), ∃ (n54 : Nat), ρ 2 = .pointer (some ⟨g9, 0, none⟩) ∧ ρ 5 = .slice a52 n54 c53 ∧ ρ 7 = .pointer (some ⟨g44, 0, none⟩) ∧ ρ 10 = .slice a6 x5.length c7 ∧ ρ 11 = .int .i64 (x5.length : Int) ∧ ρ 12 = .int .i64 x25 ∧ ρ 18 = .slice a47 n48 c49 ∧ ρ 19 = .int .i64 (x46.length : Int) ∧ ρ 20 = .int .i64 x55 ∧ St ok (bz w0) w [vl (tSlice t_fold_Object) x5 (.slice a6 x5.length c7), vl t_fold_Object x39 (.agg cs42.toArray), vl t_schema_Field x1 (.agg cs3.toArray)] [own t_index_Key 23 (.slice a47 n48 c49) x46, blk g44 80 cs42, own t_index_pair 95 (.slice a52 n54 c53) x51, blk g9 49 cs3]) ⟨a22, c23, n24, h20_2, h20_5, rfl, h20_10, h20_11, h20_12, rfl, rfl, rfl, (hs.mask [true, true, true, true]).pick [2, 0, 3]⟩ ?_
  intro s ρ w os56 hI hf hbbs56
  obtain ⟨x51, x55⟩ := s
  obtain ⟨a52, c53, n54, h50_2, h50_5, h50_7, h50_10, h50_11, h50_12, h50_18, h50_19, h50_20, hs⟩ := hI
  unfold index_pairs.l1 at hf
  refine W.seqK fun K57 hK57 => ?_
  refine W.region ?_
  refine WL.bin (v := .bool (decide (x55 < (x46.length : Int)))) h50_20 h50_19 (ib_lss _ _ _) ?_
  refine WL.nil ?_
  refine hK57 _ _ ?_
  refine W.seqK fun K58 hK58 => ?_
  rcases iteE hf with ⟨hc59, hf⟩ | ⟨hc59, hf⟩
  {
  refine W.cond_true (bool_tr rfl hc59) ?_
  refine W.skip ?_
  refine hK58 _ _ ?_
  refine W.seqK fun K60 hK60 => ?_
  refine W.block ?_
  refine W.seqK fun K61 hK61 => ?_
  refine W.region ?_
  obtain ⟨x62, hxx62, hf⟩ := bindE hf
  refine WL.indexAddrO hs 0 rfl UN100 TI23 h50_18 h50_20 hxx62 (fun ad63 hatad63 => ?_)
  refine WL.loadO hs 0 rfl TI23 (.inl rfl) hatad63 hxx62 rfl (fun v64 hs => ?_)
  obtain ⟨cs65, hl66, rfl⟩ := hs.aggv (n := 3) 0 rfl rfl rfl
  refine WL.alloc hs ZV23 (fun g67 w hs => ?_)
  refine WL.storeAll (vs := cs65) hs 0 rfl TI23 rfl rfl rfl hl66 (hs.ones 0 rfl rfl) rfl (fun w hs => ?_)
  refine WL.nil ?_
  refine hK61 _ _ ?_
  refine W.region ?_
  refine WL.move (v := .slice a52 n54 c53) h50_5 ?_
  refine WL.loadAll hs 0 rfl TI23 rfl hl66 ?_
  refine WL.fieldAddr (m := 0) h50_7 FA80_0 rfl ?_
  refine WL.loadF (z := x39.Name) F_fold_Object_Name hs 2 rfl 2 rfl rfl TI9 (.inr rfl) rfl rfl (fun v68 hs => ?_)
  obtain rfl := hs.str 0 rfl
  refine WL.build (vs := [(0, .agg cs65.toArray), (1, bstr x39.Name)]) (cs := cs65 ++ ([bstr x39.Name] : List Value)) ⟨⟨rfl, rfl⟩, ⟨⟨rfl, rfl⟩, trivial⟩⟩ (bld PL95 (by simp [fillL, Value.cells, bstr, List.drop_append, hl66])) ?_
  refine WL.buildSlice (n := 1) (vs := [(0, .agg (cs65 ++ ([bstr x39.Name] : List Value) : List Value).toArray)]) (cs := cs65 ++ ([bstr x39.Name] : List Value)) hs ⟨⟨rfl, rfl⟩, trivial⟩ (bls PS69 (by decide) (by simp [fillS, fillL, Value.cells, hl66])) (fun g69 w hs => ?_)
  obtain ⟨x70, hxx70, hf⟩ := bindE hf
  obtain ⟨hbx70, hex70⟩ := appE hxx70
  refine WL.append (ys := [(⟨x62, x39.Name⟩ : index_pair)]) (zs := x70) hs 4 rfl 0 rfl UN69 EI95 rfl rfl (fun ok hA => (Cells.one (T := t_index_pair) (show t_index_pair.R ok _ (⟨x62, x39.Name⟩ : index_pair) _ from ⟨cs65, [bstr x39.Name], by simp, (R_agg (hA.get 1 rfl) rfl), rfl⟩))) hbx70 (by omega) hex70 (fun v71 w hs => ?_)
  obtain ⟨a72, n74, c73, rfl⟩ := hs.ownv3 4 rfl
  refine WL.assign (v := .slice a72 n74 c73) rfl ?_
  refine WL.nil ?_
  refine hK60 _ _ ?_
  refine W.region ?_
  obtain ⟨x75, ex75, hf⟩ := letE hf
  refine WL.bin (v := .int .i64 x75) h50_20 rfl (ib_as ex75 (ib_add _ _ _)) ?_
  refine WL.move (v := .int .i64 x75) rfl ?_
  refine WL.nil ?_
  exact ⟨_, (Option.some.inj hf).symm, a72, c73, n74, h50_2, rfl, h50_7, h50_10, h50_11, h50_12, h50_18, h50_19, rfl, (hs.mask [false, false, true, true, true, true]).pick [2, 3, 4]⟩ }
  {
  refine W.cond_false (bool_tr rfl hc59) ?_
  refine W.exit ?_
  have hr := Option.some.inj hf; subst hr
  have hr := hbbs56 _ rfl; subst hr
  have hf := hfs56
  exact Jk36 x51 a52 c53 n54 _ _ h50_2 h50_5 h50_10 h50_11 h50_12 ((hs.mask [false, false, true, true]).pick [0, 2]) hf } }
  {
  refine W.cond_false (bool_tr rfl hc29) ?_
  refine W.exit ?_
  have hr := Option.some.inj hf; subst hr
  have hr := hbbs26 _ rfl; subst hr
  have hf := hfs26
  exact Jk17 x21 a22 c23 n24 _ _ h20_5 ((hs.mask [true]).pick []) hf }
theorem index_pairs.callc {ok : Nat → Prop} {w0 : World} {x1 : schema_Field} {x5 : List fold_Object} {v2 : Value} {a6 : Option Addr} {c7 : Nat} {r : List index_pair} (hf : index_pairs x1 x5 = some r) (i0 : (vl t_schema_Field x1 v2).holds ok w0) (i1 : (vl (tSlice t_fold_Object) x5 (.slice a6 x5.length c7)).holds ok w0) :
    Calls Try.prog 31 #[v2, .slice a6 x5.length c7] w0 fun e w' => ∃ v, e = .returned v ∧ ∃ y : (Option Addr × Nat), v = .slice y.1 r.length y.2 ∧ St ok (bz w0) w' [vl (tSlice t_index_pair) r (.slice y.1 r.length y.2)] [] := by
  refine (index_pairs.calls (ok := ok) (w0 := w0) (x1 := x1) (x5 := x5) hf i0 i1).mono ?_
  rintro e w' ⟨v, rfl, ⟨a78, n79, c80⟩, rfl, hs⟩
  obtain rfl := hs.ownLen 0 rfl
  have hs := hs.freezeOwn 0 rfl
  exact ⟨_, rfl, (a78, c80), rfl, hs.pick [0]⟩
theorem index_collect.calls {ok : Nat → Prop} {w0 : World} {x1 : schema_Field} {x5 : List index_pair} {v2 : Value} {a6 : Option Addr} {c7 : Nat} {r : index_Index} (hf : index_collect x1 x5 = some r) (i0 : (vl t_schema_Field x1 v2).holds ok w0) (i1 : (vl (tSlice t_index_pair) x5 (.slice a6 x5.length c7)).holds ok w0) :
    Calls Try.prog 30 #[v2, .slice a6 x5.length c7] w0 fun e w' => ∃ v, e = .returned v ∧ ∃ y : (Option Addr × Nat × Nat), v = .agg ([bstr r.Field.Name, .int .i64 r.Field.Kind, .int .i64 r.Field.f_Type, .int .i64 r.Field.At, .slice y.1 y.2.1 y.2.2] : List Value).toArray ∧ St ok (bz w0) w' [] [own t_index_Entry 72 (.slice y.1 y.2.1 y.2.2) r.Entries] := by
  unfold index_collect at hf
  refine calls_of_W (fn := Try.f30) (N := 51) Try.func30 rfl Try.ntmps30 rfl ?_
  have hs : St ok (bz w0) w0 [vl t_schema_Field x1 v2, vl (tSlice t_index_pair) x5 (.slice a6 x5.length c7)] [] := St.init (All.cons i0 (All.cons i1 All.nil))
  clear i0 i1
  obtain ⟨cs3, hl4, rfl⟩ := hs.aggv (n := 4) 0 rfl rfl rfl
  refine W.seqK fun K8 hK8 => ?_
  refine W.region ?_
  refine WL.box (vs := cs3) hs rfl rfl (fun g9 w hs => ?_)
  refine WL.alloc hs ZV52 (fun g10 w hs => ?_)
  refine WL.nil ?_
  refine hK8 _ _ ?_
  refine W.seqK fun K11 hK11 => ?_
  refine W.region ?_
  refine WL.loadAll hs 1 rfl TI49 rfl hl4 ?_
  refine WL.build (vs := [(0, .agg cs3.toArray)]) (cs := cs3 ++ ([.slice none 0 0] : List Value)) ⟨⟨rfl, rfl⟩, trivial⟩ (bld PL52 (by simp [fillL, Value.cells, hl4])) ?_
  refine WL.alloc hs ZV52 (fun g12 w hs => ?_)
  refine WL.storeAll (vs := cs3 ++ ([.slice none 0 0] : List Value)) hs 0 rfl TI52 rfl rfl rfl (by simp [hl4]) (ones_app (hs.ones 0 rfl rfl) (ones_of (l := [.slice none 0 0]) rfl)) rfl (fun w hs => ?_)
  refine WL.nil ?_
  refine hK11 _ _ ?_
  refine W.seqK fun K13 hK13 => ?_
  obtain rfl := open_schema_Field hs 0 rfl
  have hs := hs.ownNil t_index_Entry 72
  have Jk19 : ∀ (x15 : List index_Entry) (a16 : Option Addr) (c17 : Nat) (n18 : Nat) (ρ : Env) (w : World), ρ 4 = .pointer (some ⟨g10, 0, none⟩) → ρ 5 = .pointer (some ⟨g12, 0, none⟩) → St ok (bz w0) w [] [own t_index_Entry 72 (.slice a16 n18 c17) x15, blk g12 52 [bstr x1.Name, .int .i64 x1.Kind, .int .i64 x1.f_Type, .int .i64 x1.At, .slice a16 n18 c17], blk g10 52 ([bstr [], .int .i64 0, .int .i64 0, .int .i64 0, .slice none 0 0])] → index_collect.j1 x1 x15 = some r → K13 ρ w := by
    intro x15 a16 c17 n18 ρ w h14_4 h14_5 hs hf
    refine hK13 _ _ ?_
    unfold index_collect.j1 at hf
    refine W.seqK fun K20 hK20 => ?_
    refine W.region ?_
    refine WL.fieldAddr (m := 4) h14_5 FA52_1 rfl ?_
    refine WL.load1 (v := .slice a16 n18 c17) hs 1 rfl TI50 rfl rfl ?_
    obtain ⟨x21, hxx21, hf⟩ := bindE hf
    have hs := hs.front 0 rfl
    refine WL.callO (vs := [.slice a16 n18 c17, .func (.func 45) #[] #[]]) [own t_index_Entry 72 (.slice a16 n18 c17) x15] (Λb := [blk g12 52 [bstr x1.Name, .int .i64 x1.Kind, .int .i64 x1.f_Type, .int .i64 x1.At, .slice a16 n18 c17], blk g10 52 ([bstr [], .int .i64 0, .int .i64 0, .int .i64 0, .slice none 0 0])]) hs FN44 ⟨rfl, ⟨rfl, trivial⟩⟩ (fun ok F hs => slices_SortFunc_Entry.calls (a0 := a16) (n0 := n18) (c0 := c17) (x1 := x15) hxx21 (hs.pick [])) ?_
    rintro _ w hs
    refine WL.nil ?_
    refine hK20 _ _ ?_
    refine W.seqK fun K22 hK22 => ?_
    refine W.region ?_
    refine WL.loadN (vs := [bstr x1.Name, .int .i64 x1.Kind, .int .i64 x1.f_Type, .int .i64 x1.At, .slice a16 n18 c17]) hs 1 rfl TI52 h14_5 rfl rfl ?_
    refine WL.storeAll (vs := [bstr x1.Name, .int .i64 x1.Kind, .int .i64 x1.f_Type, .int .i64 x1.At, .slice a16 n18 c17]) hs 2 rfl TI52 h14_4 rfl rfl rfl (ones_of rfl) rfl (fun w hs => ?_)
    refine WL.nil ?_
    refine hK22 _ _ ?_
    refine W.ret ?_
    have hr := Option.some.inj hf; subst hr
    exact ⟨_, resOk_one rfl (res_all hs 2 rfl TI52 h14_4 rfl), (a16, n18, c17), rfl, (hs.mask [true]).pick []⟩
  refine W.seqK fun K23 hK23 => ?_
  refine W.region ?_
  refine WL.move (v := .slice a6 x5.length c7) rfl ?_
  obtain ⟨x24, hxx24, hf⟩ := bindE hf
  refine WL.call (vs := [.slice a6 x5.length c7, .func (.func 43) #[] #[]]) hs FN42 ⟨rfl, ⟨rfl, trivial⟩⟩ (fun ok hA => index_groupBy.calls (x1 := x5) hxx24 (hA.get 1 rfl)) ?_
  rintro g25 w hs
  have hf := permE hf
  refine WL.range hs 0 rfl UN92 rfl (fun r26 w hs => ?_)
  refine WL.nil ?_
  refine hK23 _ _ ?_
  refine W.block ?_
  refine W.loopR hf (fun lf s ρ w => match s with | x29 => ∃ (a30 : Option Addr), ∃ (c31 : Nat), ∃ (n32 : Nat), ρ 4 = .pointer (some ⟨g10, 0, none⟩) ∧ ρ 5 = .pointer (some ⟨g12, 0, none⟩) ∧ ρ 15 = .pointer (some ⟨r26, 0, none⟩) ∧ St ok (bz w0) w [] [rng kv_index_Key (tSlice t_index_pair) g25 r26 x24 lf none, own t_index_Entry 72 (.slice a30 n32 c31) x29, blk g12 52 [bstr x1.Name, .int .i64 x1.Kind, .int .i64 x1.f_Type, .int .i64 x1.At, .slice a30 n32 c31], blk g10 52 ([bstr [], .int .i64 0, .int .i64 0, .int .i64 0, .slice none 0 0])]) ⟨none, 0, 0, rfl, rfl, rfl, (hs.mask [true, true, true, true]).pick []⟩ ?_
  intro lf x29 ρ w hI hNs33 hCs33
  obtain ⟨a30, c31, n32, h28_4, h28_5, h28_15, hs⟩ := hI
  refine W.seqK fun K36 hK36 => ?_
  refine W.region ?_
  refine WL.next hs 0 rfl h28_15 (fun hL => ?_) (fun x34 x35 lf2s33 v38 w hPs33 hs => ?_)
  {
  have hf : index_collect.j1 x1 x29 = some r := hNs33 hL
  have hs := hs.unrng 0 rfl
  refine WL.extract (v := .bool false) rfl rfl ?_
  refine WL.nil ?_
  refine hK36 _ _ ?_
  refine W.seqK fun K37 hK37 => ?_
  refine W.cond_false rfl ?_
  refine W.exit ?_
  exact Jk19 x29 a30 c31 n32 _ _ h28_4 h28_5 ((hs.mask [false, true, true, true]).pick []) hf }
  {
  obtain ⟨os33, hSs33, hBs33⟩ := hCs33 _ _ hPs33
  have hf : index_collect.l2 x34 x35 x29 = some os33 := hSs33
  unfold index_collect.l2 at hf
  refine WL.extract (v := .bool true) rfl rfl ?_
  refine WL.nil ?_
  refine hK36 _ _ ?_
  refine W.seqK fun K39 hK39 => ?_
  refine W.cond_true rfl ?_
  refine W.skip ?_
  refine hK39 _ _ ?_
  refine W.block ?_
  refine W.seqK fun K40 hK40 => ?_
  refine W.region ?_
  refine WL.entry hs 0 rfl h28_15 (fun v41 hs => ?_)
  obtain ⟨a42, c43, rfl⟩ := hs.slice 0 rfl
  have hs := hs.rngF 0 rfl
  refine WL.extract (v := .agg ([.int .i64 x34.f_Type, .int .i64 x34.N, bstr x34.S] : List Value).toArray) rfl rfl ?_
  refine WL.extract (v := .slice a42 x35.length c43) rfl rfl ?_
  refine WL.alloc hs ZV23 (fun g44 w hs => ?_)
  refine WL.storeAll (vs := [.int .i64 x34.f_Type, .int .i64 x34.N, bstr x34.S]) hs 0 rfl TI23 rfl rfl rfl rfl (ones_of rfl) rfl (fun w hs => ?_)
  refine WL.assign (v := .slice a42 x35.length c43) rfl ?_
  refine WL.nil ?_
  refine hK40 _ _ ?_
  refine W.seqK fun K45 hK45 => ?_
  refine W.region ?_
  refine WL.loadN (vs := [.int .i64 x34.f_Type, .int .i64 x34.N, bstr x34.S]) hs 0 rfl TI23 rfl rfl rfl ?_
  refine WL.build (vs := [(0, .agg ([.int .i64 x34.f_Type, .int .i64 x34.N, bstr x34.S] : List Value).toArray)]) (cs := [.int .i64 x34.f_Type, .int .i64 x34.N, bstr x34.S, .slice none 0 0]) ⟨⟨rfl, rfl⟩, trivial⟩ (bld PL72 rfl) ?_
  refine WL.alloc hs ZV72 (fun g46 w hs => ?_)
  refine WL.storeAll (vs := [.int .i64 x34.f_Type, .int .i64 x34.N, bstr x34.S, .slice none 0 0]) hs 0 rfl TI72 rfl rfl rfl rfl (ones_of rfl) rfl (fun w hs => ?_)
  refine WL.nil ?_
  refine hK45 _ _ ?_
  refine W.seqK fun K47 hK47 => ?_
  have hs := hs.ownNil tStr 9
  have Jk53 : ∀ (x49 : List (List UInt8)) (a50 : Option Addr) (c51 : Nat) (n52 : Nat) (ρ : Env) (w : World), ρ 4 = .pointer (some ⟨g10, 0, none⟩) → ρ 5 = .pointer (some ⟨g12, 0, none⟩) → ρ 8 = .pointer (some ⟨g46, 0, none⟩) → ρ 15 = .pointer (some ⟨r26, 0, none⟩) → St ok (bz w0) w [] [own tStr 9 (.slice a50 n52 c51) x49, blk g46 72 [.int .i64 x34.f_Type, .int .i64 x34.N, bstr x34.S, .slice a50 n52 c51], rng kv_index_Key (tSlice t_index_pair) g25 r26 x24 lf2s33 none, own t_index_Entry 72 (.slice a30 n32 c31) x29, blk g12 52 [bstr x1.Name, .int .i64 x1.Kind, .int .i64 x1.f_Type, .int .i64 x1.At, .slice a30 n32 c31], blk g10 52 ([bstr [], .int .i64 0, .int .i64 0, .int .i64 0, .slice none 0 0])] → index_collect.j2 x29 x34 x49 = some os33 → K47 ρ w := by
    intro x49 a50 c51 n52 ρ w h48_4 h48_5 h48_8 h48_15 hs hf
    refine hK47 _ _ ?_
    unfold index_collect.j2 at hf
    refine W.seqK fun K54 hK54 => ?_
    refine W.region ?_
    refine WL.fieldAddr (m := 3) h48_8 FA72_1 rfl ?_
    refine WL.load1 (v := .slice a50 n52 c51) hs 1 rfl TI32 rfl rfl ?_
    obtain rfl := hs.ownLen 0 rfl
    have hs := hs.freezeOwn 0 rfl
    obtain ⟨x55, hxx55, hf⟩ := bindE hf
    refine WL.call (vs := [.slice a50 x49.length c51]) hs FN20 ⟨rfl, trivial⟩ (fun ok hA => index_ascending.calls (x1 := x49) hxx55 (hA.get 0 rfl)) ?_
    rintro ⟨a56, n57, c58⟩ w hs
    refine WL.fieldAddr (m := 3) h48_8 FA72_1 rfl ?_
    refine WL.store (vs := [.slice a56 n57 c58]) (cs' := [.int .i64 x34.f_Type, .int .i64 x34.N, bstr x34.S, .slice a56 n57 c58]) hs 1 rfl TI32 rfl rfl rfl rfl (ones_of rfl) (Nat.le_of_ble_eq_true rfl) rfl (fun w hs => ?_)
    refine WL.nil ?_
    refine hK54 _ _ ?_
    refine W.region ?_
    refine WL.fieldAddr (m := 4) h48_5 FA52_1 rfl ?_
    refine WL.load1 (v := .slice a30 n32 c31) hs 4 rfl TI50 rfl rfl ?_
    refine WL.loadN (vs := [.int .i64 x34.f_Type, .int .i64 x34.N, bstr x34.S, .slice a56 n57 c58]) hs 1 rfl TI72 h48_8 rfl rfl ?_
    refine WL.buildSlice (n := 1) (vs := [(0, .agg ([.int .i64 x34.f_Type, .int .i64 x34.N, bstr x34.S, .slice a56 n57 c58] : List Value).toArray)]) (cs := [.int .i64 x34.f_Type, .int .i64 x34.N, bstr x34.S, .slice a56 n57 c58]) hs ⟨⟨rfl, rfl⟩, trivial⟩ (bls PS50 (by decide) rfl) (fun g59 w hs => ?_)
    obtain rfl := hs.ownLen 1 rfl
    have hs := hs.freezeOwn 1 rfl
    obtain ⟨x60, hxx60, hf⟩ := bindE hf
    obtain ⟨hbx60, hex60⟩ := appE hxx60
    refine WL.append (ys := [(⟨(⟨x34.f_Type, x34.N, x34.S⟩ : index_Key), x55⟩ : index_Entry)]) (zs := x60) hs 3 rfl 0 rfl UN50 EI72 rfl rfl (fun ok hA => (Cells.one (T := t_index_Entry) (show t_index_Entry.R ok _ (⟨(⟨x34.f_Type, x34.N, x34.S⟩ : index_Key), x55⟩ : index_Entry) _ from ⟨[.int .i64 x34.f_Type, .int .i64 x34.N, bstr x34.S], [.slice a56 x55.length c58], rfl, ⟨[.int .i64 x34.f_Type], [.int .i64 x34.N, bstr x34.S], rfl, rfl, ⟨[.int .i64 x34.N], [bstr x34.S], rfl, rfl, rfl⟩⟩, (R_one (hA.get 0 rfl))⟩))) hbx60 (by omega) hex60 (fun v61 w hs => ?_)
    obtain ⟨a62, n64, c63, rfl⟩ := hs.ownv3 3 rfl
    refine WL.fieldAddr (m := 4) h48_5 FA52_1 rfl ?_
    refine WL.store (vs := [.slice a62 n64 c63]) (cs' := [bstr x1.Name, .int .i64 x1.Kind, .int .i64 x1.f_Type, .int .i64 x1.At, .slice a62 n64 c63]) hs 4 rfl TI50 rfl rfl rfl rfl (ones_of rfl) (Nat.le_of_ble_eq_true rfl) rfl (fun w hs => ?_)
    refine WL.nil ?_
    have hr := Option.some.inj hf; subst hr
    exact ⟨_, _, _, hPs33, hSs33, a62, c63, n64, h48_4, h48_5, h48_15, (hs.mask [false, false, true, true, true, true]).pick []⟩
  refine W.seqK fun K65 hK65 => ?_
  refine W.region ?_
  refine WL.move (v := .slice a42 x35.length c43) rfl ?_
  refine WL.len (v := .slice a42 x35.length c43) rfl (len_slice UN69) ?_
  refine WL.move (v := .int .i64 0) rfl ?_
  refine WL.nil ?_
  refine hK65 _ _ ?_
  refine W.block ?_
  obtain ⟨bs72, hbs72, hfs72⟩ := bindE hf
  refine W.loop hbs72 (fun s ρ w => match s with | (x67, x68) => ∃ (a69 : Option Addr), ∃ (c70 : Nat), ∃ (n71 : Nat), ρ 4 = .pointer (some ⟨g10, 0, none⟩) ∧ ρ 5 = .pointer (some ⟨g12, 0, none⟩) ∧ ρ 8 = .pointer (some ⟨g46, 0, none⟩) ∧ ρ 15 = .pointer (some ⟨r26, 0, none⟩) ∧ ρ 23 = .slice a42 x35.length c43 ∧ ρ 24 = .int .i64 (x35.length : Int) ∧ ρ 25 = .int .i64 x67 ∧ St ok (bz w0) w [vl (tSlice t_index_pair) x35 (.slice a42 x35.length c43)] [own tStr 9 (.slice a69 n71 c70) x68, blk g46 72 [.int .i64 x34.f_Type, .int .i64 x34.N, bstr x34.S, .slice a69 n71 c70], rng kv_index_Key (tSlice t_index_pair) g25 r26 x24 lf2s33 none, own t_index_Entry 72 (.slice a30 n32 c31) x29, blk g12 52 [bstr x1.Name, .int .i64 x1.Kind, .int .i64 x1.f_Type, .int .i64 x1.At, .slice a30 n32 c31], blk g10 52 ([bstr [], .int .i64 0, .int .i64 0, .int .i64 0, .slice none 0 0])]) ⟨none, 0, 0, h28_4, h28_5, rfl, h28_15, rfl, rfl, rfl, (hs.mask [true, true, false, true, true, true, true]).pick [0]⟩ ?_
  intro s ρ w os72 hI hf hbbs72
  obtain ⟨x67, x68⟩ := s
  obtain ⟨a69, c70, n71, h66_4, h66_5, h66_8, h66_15, h66_23, h66_24, h66_25, hs⟩ := hI
  unfold index_collect.l1 at hf
  refine W.seqK fun K73 hK73 => ?_
  refine W.region ?_
  refine WL.bin (v := .bool (decide (x67 < (x35.length : Int)))) h66_25 h66_24 (ib_lss _ _ _) ?_
  refine WL.nil ?_
  refine hK73 _ _ ?_
  refine W.seqK fun K74 hK74 => ?_
  rcases iteE hf with ⟨hc75, hf⟩ | ⟨hc75, hf⟩
  {
  refine W.cond_true (bool_tr rfl hc75) ?_
  refine W.skip ?_
  refine hK74 _ _ ?_
  refine W.seqK fun K76 hK76 => ?_
  refine W.block ?_
  refine W.seqK fun K77 hK77 => ?_
  refine W.region ?_
  obtain ⟨x78, hxx78, hf⟩ := bindE hf
  refine WL.indexAddr hs 0 rfl UN69 TI95 h66_23 h66_25 hxx78 (fun ad79 hs => ?_)
  refine WL.loadP hs 0 rfl TI95 (.inl rfl) rfl (fun v80 hs => ?_)
  obtain ⟨cs81, hl82, rfl⟩ := hs.aggv (n := 4) 0 rfl rfl rfl
  refine WL.alloc hs ZV95 (fun g83 w hs => ?_)
  refine WL.storeAll (vs := cs81) hs 0 rfl TI95 rfl rfl rfl hl82 (hs.ones 0 rfl rfl) rfl (fun w hs => ?_)
  refine WL.nil ?_
  refine hK77 _ _ ?_
  refine W.region ?_
  refine WL.fieldAddr (m := 3) h66_8 FA72_1 rfl ?_
  refine WL.load1 (v := .slice a69 n71 c70) hs 2 rfl TI32 rfl rfl ?_
  refine WL.fieldAddr (m := 3) rfl FA95_1 rfl ?_
  refine WL.loadF (z := x78.f_object) F_index_pair_f_object hs 0 rfl 0 rfl rfl TI9 (.inr rfl) rfl rfl (fun v84 hs => ?_)
  obtain rfl := hs.str 0 rfl
  refine WL.buildSlice (n := 1) (vs := [(0, bstr x78.f_object)]) (cs := [bstr x78.f_object]) hs ⟨⟨rfl, rfl⟩, trivial⟩ (bls PS32 (by decide) rfl) (fun g85 w hs => ?_)
  obtain ⟨x86, hxx86, hf⟩ := bindE hf
  obtain ⟨hbx86, hex86⟩ := appE hxx86
  refine WL.append (ys := [x78.f_object]) (zs := x86) hs 2 rfl 0 rfl UN32 EI9 rfl rfl (fun ok hA => (Cells.one (T := tStr) rfl)) hbx86 (by omega) hex86 (fun v87 w hs => ?_)
  obtain ⟨a88, n90, c89, rfl⟩ := hs.ownv3 2 rfl
  refine WL.fieldAddr (m := 3) h66_8 FA72_1 rfl ?_
  refine WL.store (vs := [.slice a88 n90 c89]) (cs' := [.int .i64 x34.f_Type, .int .i64 x34.N, bstr x34.S, .slice a88 n90 c89]) hs 3 rfl TI32 rfl rfl rfl rfl (ones_of rfl) (Nat.le_of_ble_eq_true rfl) rfl (fun w hs => ?_)
  refine WL.nil ?_
  refine hK76 _ _ ?_
  refine W.region ?_
  obtain ⟨x91, ex91, hf⟩ := letE hf
  refine WL.bin (v := .int .i64 x91) h66_25 rfl (ib_as ex91 (ib_add _ _ _)) ?_
  refine WL.move (v := .int .i64 x91) rfl ?_
  refine WL.nil ?_
  exact ⟨_, (Option.some.inj hf).symm, a88, c89, n90, h66_4, h66_5, h66_8, h66_15, h66_23, h66_24, rfl, (hs.mask [false, false, true, true, true, true, true, true]).pick [3]⟩ }
  {
  refine W.cond_false (bool_tr rfl hc75) ?_
  refine W.exit ?_
  have hr := Option.some.inj hf; subst hr
  have hr := hbbs72 _ rfl; subst hr
  have hf := hfs72
  exact Jk53 x68 a69 c70 n71 _ _ h66_4 h66_5 h66_8 h66_15 ((hs.mask [true, true, true, true, true, true]).pick []) hf } }
theorem index_collect.callc {ok : Nat → Prop} {w0 : World} {x1 : schema_Field} {x5 : List index_pair} {v2 : Value} {a6 : Option Addr} {c7 : Nat} {r : index_Index} (hf : index_collect x1 x5 = some r) (i0 : (vl t_schema_Field x1 v2).holds ok w0) (i1 : (vl (tSlice t_index_pair) x5 (.slice a6 x5.length c7)).holds ok w0) :
    Calls Try.prog 30 #[v2, .slice a6 x5.length c7] w0 fun e w' => ∃ v, e = .returned v ∧ ∃ y : List Value, v = .agg y.toArray ∧ St ok (bz w0) w' [vl t_index_Index r (.agg y.toArray)] [] := by
  refine (index_collect.calls (ok := ok) (w0 := w0) (x1 := x1) (x5 := x5) hf i0 i1).mono ?_
  rintro e w' ⟨v, rfl, ⟨a93, n94, c95⟩, rfl, hs⟩
  obtain rfl := hs.ownLen 0 rfl
  have hs := hs.freezeOwn 0 rfl
  have hs := hs.add (it := vl t_index_Index (⟨(⟨r.Field.Name, r.Field.Kind, r.Field.f_Type, r.Field.At⟩ : schema_Field), r.Entries⟩ : index_Index) (.agg [bstr r.Field.Name, .int .i64 r.Field.Kind, .int .i64 r.Field.f_Type, .int .i64 r.Field.At, .slice a93 (r.Entries).length c95].toArray)) fun ok hA => V_agg (show t_index_Index.R ok _ _ _ from ⟨[bstr r.Field.Name, .int .i64 r.Field.Kind, .int .i64 r.Field.f_Type, .int .i64 r.Field.At], [.slice a93 (r.Entries).length c95], rfl, ⟨[bstr r.Field.Name], [.int .i64 r.Field.Kind, .int .i64 r.Field.f_Type, .int .i64 r.Field.At], rfl, rfl, ⟨[.int .i64 r.Field.Kind], [.int .i64 r.Field.f_Type, .int .i64 r.Field.At], rfl, rfl, ⟨[.int .i64 r.Field.f_Type], [.int .i64 r.Field.At], rfl, rfl, rfl⟩⟩⟩, (R_one (hA.get 0 rfl))⟩) rfl
  exact ⟨_, rfl, [bstr r.Field.Name, .int .i64 r.Field.Kind, .int .i64 r.Field.f_Type, .int .i64 r.Field.At, .slice a93 (r.Entries).length c95], rfl, hs.pick [0]⟩
theorem index_Build.calls {ok : Nat → Prop} {w0 : World} {x1 : schema_Field} {x5 : fold_Store} {v2 : Value} {v6 : Value} {r : index_Index} (hf : index_Build x1 x5 = some r) (i0 : (vl t_schema_Field x1 v2).holds ok w0) (i1 : (vl t_fold_Store x5 v6).holds ok w0) :
    Calls Try.prog 17 #[v2, v6] w0 fun e w' => ∃ v, e = .returned v ∧ ∃ y : List Value, v = .agg y.toArray ∧ St ok (bz w0) w' [vl t_index_Index r (.agg y.toArray)] [] := by
  unfold index_Build at hf
  refine calls_of_W (fn := Try.f17) (N := 11) Try.func17 rfl Try.ntmps17 rfl ?_
  have hs : St ok (bz w0) w0 [vl t_schema_Field x1 v2, vl t_fold_Store x5 v6] [] := St.init (All.cons i0 (All.cons i1 All.nil))
  clear i0 i1
  obtain ⟨cs3, hl4, rfl⟩ := hs.aggv (n := 4) 0 rfl rfl rfl
  obtain ⟨cs7, hl8, rfl⟩ := hs.aggv (n := 1) 1 rfl rfl rfl
  refine W.seqK fun K9 hK9 => ?_
  refine W.region ?_
  refine WL.box (vs := cs3) hs rfl rfl (fun g10 w hs => ?_)
  refine WL.box (vs := cs7) hs rfl rfl (fun g11 w hs => ?_)
  refine WL.alloc hs ZV52 (fun g12 w hs => ?_)
  refine WL.nil ?_
  refine hK9 _ _ ?_
  refine W.seqK fun K13 hK13 => ?_
  obtain ⟨x17, hxx17, hf⟩ := bindE hf
  obtain ⟨x20, hxx20, hf⟩ := bindE hf
  refine W.any (by kernel_rfl) 6 1 [true, true, true, true, true, true, false] rfl rfl (poAt [pv (.agg cs3.toArray), pv (.agg cs3.toArray), pv (.pointer (some ⟨g11, 0, none⟩)), pq (fun y : (Option Addr × Nat) => .slice y.1 (x5.Objects).length y.2) (fun v => [vl (tSlice t_fold_Object) x5.Objects v]) (fun v => []), pq (fun y : (Option Addr × Nat) => .slice y.1 x17.length y.2) (fun v => [vl (tSlice t_index_pair) x17 v]) (fun v => []), pq (fun y : List Value => .agg y.toArray) (fun v => [vl t_index_Index x20 v]) (fun v => [])]) (Λ := [blk g12 52 ([bstr [], .int .i64 0, .int .i64 0, .int .i64 0, .slice none 0 0]), blk g11 41 cs7, blk g10 49 cs3]) hs (by kernel_rfl) (by kernel_rfl) (by kernel_rfl) ⟨⟨⟨⟨⟨⟨trivial, ?_⟩, ?_⟩, ?_⟩, ?_⟩, ?_⟩, ?_⟩ ?_
  {
  intro ρ w Γx Λx hs hu hp
  refine WL.loadAll hs (Λx.length + 2) (getApp rfl) TI49 (hu 2 rfl) hl4 ?_
  exact WL.nil ⟨rfl, _, rfl, rfl, hs.cutG 0 0⟩ }
  {
  intro ρ w Γx Λx hs hu hp
  refine WL.loadAll hs (Λx.length + 2) (getApp rfl) TI49 (hu 2 rfl) hl4 ?_
  exact WL.nil ⟨rfl, _, rfl, rfl, hs.cutG 0 0⟩ }
  {
  intro ρ w Γx Λx hs hu hp
  refine WL.fieldAddr (m := 0) (hu 3 rfl) FA41_0 rfl ?_
  exact WL.nil ⟨rfl, _, rfl, rfl, hs.cutG 0 0⟩ }
  {
  intro ρ w Γx Λx hs hu hp
  have e23 : ρ 7 = .pointer (some ⟨g11, 0, none⟩) := (hp 2 rfl).1
  refine WL.loadF (z := x5.Objects) F_fold_Store_Objects hs (Λx.length + 1) (getApp rfl) (Γx.length + 1) (getApp rfl) rfl TI39 (.inr rfl) e23 rfl (fun v14 hs => ?_)
  obtain ⟨a15, c16, rfl⟩ := hs.slice 0 rfl
  have hs := hs.add (it := vl (tSlice t_fold_Object) x5.Objects (.slice a15 (x5.Objects).length c16)) fun ok hA => hA.get 0 rfl
  exact WL.nil ⟨rfl, _, rfl, ⟨(a15, c16), rfl⟩, hs.cutG 1 1⟩ }
  {
  intro ρ w Γx Λx hs hu hp
  have e24 : ρ 6 = .agg cs3.toArray := (hp 1 rfl).1
  obtain ⟨⟨⟨a25, c26⟩, e27r⟩, hm28⟩ := hp 3 rfl
  have e27 : ρ 8 = .slice a25 (x5.Objects).length c26 := e27r
  rw [e27r] at hm28
  have hs := hs.memo1 (it := vl (tSlice t_fold_Object) x5.Objects (.slice a25 (x5.Objects).length c26)) (List.mem_append.2 (.inl (hm28 _ (List.mem_of_getElem? (i := 0) rfl))))
  refine WL.call (vs := [.agg cs3.toArray, .slice a25 (x5.Objects).length c26]) hs FN31 ⟨e24, ⟨e27, trivial⟩⟩ (fun ok hA => index_pairs.callc (x1 := x1) (x5 := x5.Objects) hxx17 (hA.get (Γx.length + 0 + 1) (getApp1 rfl)) (hA.get 0 rfl)) ?_
  rintro ⟨a18, c19⟩ w hs
  have hs := hs.add (it := vl (tSlice t_index_pair) x17 (.slice a18 x17.length c19)) fun ok hA => hA.get 0 rfl
  exact WL.nil ⟨rfl, _, rfl, ⟨(a18, c19), rfl⟩, hs.cutG 1 2⟩ }
  {
  intro ρ w Γx Λx hs hu hp
  have e29 : ρ 5 = .agg cs3.toArray := (hp 0 rfl).1
  obtain ⟨⟨⟨a30, c31⟩, e32r⟩, hm33⟩ := hp 4 rfl
  have e32 : ρ 9 = .slice a30 x17.length c31 := e32r
  rw [e32r] at hm33
  have hs := hs.memo1 (it := vl (tSlice t_index_pair) x17 (.slice a30 x17.length c31)) (List.mem_append.2 (.inl (hm33 _ (List.mem_of_getElem? (i := 0) rfl))))
  refine WL.call (vs := [.agg cs3.toArray, .slice a30 x17.length c31]) hs FN30 ⟨e29, ⟨e32, trivial⟩⟩ (fun ok hA => index_collect.callc (x1 := x1) (x5 := x17) hxx20 (hA.get (Γx.length + 0 + 1) (getApp1 rfl)) (hA.get 0 rfl)) ?_
  rintro cs21 w hs
  have hl22 := hs.agglen (n := 5) 0 rfl rfl rfl
  have hs := hs.add (it := vl t_index_Index x20 (.agg cs21.toArray)) fun ok hA => hA.get 0 rfl
  exact WL.nil ⟨rfl, _, rfl, ⟨cs21, rfl⟩, hs.cutG 1 2⟩ }
  {
  intro ρ w hs hu34 hp
  obtain ⟨⟨⟨⟨⟨⟨_, hp0_⟩, hp1_⟩, hp2_⟩, hp3_⟩, hp4_⟩, hp5_⟩ := hp
  have hs : St ok (bz w0) w [vl t_index_Index x20 (ρ 10), vl (tSlice t_index_pair) x17 (ρ 9), vl (tSlice t_fold_Object) x5.Objects (ρ 8), vl t_schema_Field x1 (.agg cs3.toArray), vl t_fold_Store x5 (.agg cs7.toArray)] [blk g12 52 ([bstr [], .int .i64 0, .int .i64 0, .int .i64 0, .slice none 0 0]), blk g11 41 cs7, blk g10 49 cs3] := hs
  obtain ⟨cs35, e37⟩ := hp5_
  have e37 : ρ 10 = .agg cs35.toArray := e37
  try rw [e37] at hs
  obtain ⟨⟨a38, c39⟩, e40⟩ := hp4_
  have e40 : ρ 9 = .slice a38 x17.length c39 := e40
  try rw [e40] at hs
  obtain ⟨⟨a41, c42⟩, e43⟩ := hp3_
  have e43 : ρ 8 = .slice a41 (x5.Objects).length c42 := e43
  try rw [e43] at hs
  have e44 : ρ 7 = .pointer (some ⟨g11, 0, none⟩) := hp2_
  have e45 : ρ 6 = .agg cs3.toArray := hp1_
  have e46 : ρ 5 = .agg cs3.toArray := hp0_
  have hl36 := hs.agglen (n := 5) 0 rfl rfl rfl
  refine WA.step [6] (by kernel_rfl) (by simp) ⟨?_, trivial⟩
  refine WL.storeAll (vs := cs35) hs 0 rfl TI52 (hu34 4 rfl) e37 rfl hl36 (hs.ones 0 rfl rfl) rfl (fun w hs => ?_)
  refine WL.nil ⟨rfl, _, rfl, ?_⟩
  refine WA.done (by kernel_rfl) ?_
  refine hK13 _ _ ?_
  refine W.ret ?_
  have hr := Option.some.inj hf; subst hr
  exact ⟨_, resOk_one rfl (res_all hs 0 rfl TI52 (hu34 4 rfl) hl36), cs35, rfl, (hs.mask []).pick [0]⟩ }
theorem index_Range.calls {ok : Nat → Prop} {w0 : World} {x1 : index_Index} {x5 : index_Key} {x9 : index_Key} {v2 : Value} {v6 : Value} {v10 : Value} {r : List (List UInt8)} (hf : index_Range x1 x5 x9 = some r) (i0 : (vl t_index_Index x1 v2).holds ok w0) (i1 : (vl t_index_Key x5 v6).holds ok w0) (i2 : (vl t_index_Key x9 v10).holds ok w0) :
    Calls Try.prog 19 #[v2, v6, v10] w0 fun e w' => ∃ v, e = .returned v ∧ ∃ y : (Option Addr × Nat × Nat), v = .slice y.1 y.2.1 y.2.2 ∧ St ok (bz w0) w' [] [own tStr 9 (.slice y.1 y.2.1 y.2.2) r] := by
  unfold index_Range at hf
  refine calls_of_W (fn := Try.f19) (N := 36) Try.func19 rfl Try.ntmps19 rfl ?_
  have hs : St ok (bz w0) w0 [vl t_index_Index x1 v2, vl t_index_Key x5 v6, vl t_index_Key x9 v10] [] := St.init (All.cons i0 (All.cons i1 (All.cons i2 All.nil)))
  clear i0 i1 i2
  obtain ⟨cs3, hl4, rfl⟩ := hs.aggv (n := 5) 0 rfl rfl rfl
  obtain ⟨cs7, hl8, rfl⟩ := hs.aggv (n := 3) 1 rfl rfl rfl
  obtain ⟨cs11, hl12, rfl⟩ := hs.aggv (n := 3) 2 rfl rfl rfl
  refine W.seqK fun K13 hK13 => ?_
  refine W.region ?_
  refine WL.box (vs := cs3) hs rfl rfl (fun g14 w hs => ?_)
  refine WL.box (vs := cs7) hs rfl rfl (fun g15 w hs => ?_)
  refine WL.box (vs := cs11) hs rfl rfl (fun g16 w hs => ?_)
  refine WL.assign (v := .slice none 0 0) rfl ?_
  refine WL.nil ?_
  refine hK13 _ _ ?_
  refine W.seqK fun K17 hK17 => ?_
  refine W.region ?_
  refine WL.assign (v := .slice none 0 0) rfl ?_
  refine WL.nil ?_
  refine hK17 _ _ ?_
  refine W.seqK fun K18 hK18 => ?_
  have hs := hs.ownNil tStr 9
  have Jk24 : ∀ (x20 : List (List UInt8)) (a21 : Option Addr) (c22 : Nat) (n23 : Nat) (ρ : Env) (w : World), ρ 7 = .slice a21 n23 c22 → St ok (bz w0) w [] [own tStr 9 (.slice a21 n23 c22) x20] → index_Range.j1 x20 = some r → K18 ρ w := by
    intro x20 a21 c22 n23 ρ w h19_7 hs hf
    refine hK18 _ _ ?_
    unfold index_Range.j1 at hf
    refine W.seqK fun K25 hK25 => ?_
    refine W.region ?_
    refine WL.move (v := .slice a21 n23 c22) h19_7 ?_
    obtain rfl := hs.ownLen 0 rfl
    have hs := hs.freezeOwn 0 rfl
    obtain ⟨x26, hxx26, hf⟩ := bindE hf
    refine WL.call (vs := [.slice a21 x20.length c22]) hs FN20 ⟨rfl, trivial⟩ (fun ok hA => index_ascending.calls (x1 := x20) hxx26 (hA.get 0 rfl)) ?_
    rintro ⟨a27, n28, c29⟩ w hs
    refine WL.assign (v := .slice a27 n28 c29) rfl ?_
    refine WL.nil ?_
    refine hK25 _ _ ?_
    refine W.ret ?_
    have hr := Option.some.inj hf; subst hr
    exact ⟨_, resOk_one rfl rfl, (a27, n28, c29), rfl, (hs.mask [true]).pick []⟩
  refine W.seqK fun K30 hK30 => ?_
  refine W.region ?_
  refine WL.fieldAddr (m := 4) rfl FA52_1 rfl ?_
  refine WL.loadF (z := x1.Entries) F_index_Index_Entries hs 3 rfl 0 rfl rfl TI50 (.inr rfl) rfl rfl (fun v31 hs => ?_)
  obtain ⟨a32, c33, rfl⟩ := hs.slice 0 rfl
  refine WL.len (v := .slice a32 (x1.Entries).length c33) rfl (len_slice UN50) ?_
  refine WL.move (v := .int .i64 0) rfl ?_
  refine WL.nil ?_
  refine hK30 _ _ ?_
  refine W.block ?_
  obtain ⟨bs40, hbs40, hfs40⟩ := bindE hf
  refine W.loop hbs40 (fun s ρ w => match s with | (x35, x39) => ∃ (a36 : Option Addr), ∃ (c37 : Nat), ∃ (n38 : Nat), ρ 4 = .pointer (some ⟨g15, 0, none⟩) ∧ ρ 5 = .pointer (some ⟨g16, 0, none⟩) ∧ ρ 7 = .slice a36 n38 c37 ∧ ρ 11 = .slice a32 (x1.Entries).length c33 ∧ ρ 12 = .int .i64 ((x1.Entries).length : Int) ∧ ρ 13 = .int .i64 x39 ∧ St ok (bz w0) w [vl (tSlice t_index_Entry) x1.Entries (.slice a32 (x1.Entries).length c33), vl t_index_Key x9 (.agg cs11.toArray), vl t_index_Key x5 (.agg cs7.toArray)] [own tStr 9 (.slice a36 n38 c37) x35, blk g16 23 cs11, blk g15 23 cs7]) ⟨none, 0, 0, rfl, rfl, rfl, rfl, rfl, rfl, (hs.mask [true, true, true]).pick [0, 3, 2]⟩ ?_
  intro s ρ w os40 hI hf hbbs40
  obtain ⟨x35, x39⟩ := s
  obtain ⟨a36, c37, n38, h34_4, h34_5, h34_7, h34_11, h34_12, h34_13, hs⟩ := hI
  unfold index_Range.l1 at hf
  refine W.seqK fun K41 hK41 => ?_
  refine W.region ?_
  refine WL.bin (v := .bool (decide (x39 < ((x1.Entries).length : Int)))) h34_13 h34_12 (ib_lss _ _ _) ?_
  refine WL.nil ?_
  refine hK41 _ _ ?_
  refine W.seqK fun K42 hK42 => ?_
  rcases iteE hf with ⟨hc43, hf⟩ | ⟨hc43, hf⟩
  {
  refine W.cond_true (bool_tr rfl hc43) ?_
  refine W.skip ?_
  refine hK42 _ _ ?_
  refine W.seqK fun K44 hK44 => ?_
  have Jk50 : ∀ (x46 : List (List UInt8)) (a47 : Option Addr) (c48 : Nat) (n49 : Nat) (ρ : Env) (w : World), ρ 4 = .pointer (some ⟨g15, 0, none⟩) → ρ 5 = .pointer (some ⟨g16, 0, none⟩) → ρ 7 = .slice a47 n49 c48 → ρ 11 = .slice a32 (x1.Entries).length c33 → ρ 12 = .int .i64 ((x1.Entries).length : Int) → ρ 13 = .int .i64 x39 → St ok (bz w0) w [vl (tSlice t_index_Entry) x1.Entries (.slice a32 (x1.Entries).length c33), vl t_index_Key x9 (.agg cs11.toArray), vl t_index_Key x5 (.agg cs7.toArray)] [own tStr 9 (.slice a47 n49 c48) x46, blk g16 23 cs11, blk g15 23 cs7] → index_Range.j2 x39 x46 = some os40 → K44 ρ w := by
    intro x46 a47 c48 n49 ρ w h45_4 h45_5 h45_7 h45_11 h45_12 h45_13 hs hf
    refine hK44 _ _ ?_
    unfold index_Range.j2 at hf
    refine W.region ?_
    obtain ⟨x51, ex51, hf⟩ := letE hf
    refine WL.bin (v := .int .i64 x51) h45_13 rfl (ib_as ex51 (ib_add _ _ _)) ?_
    refine WL.move (v := .int .i64 x51) rfl ?_
    refine WL.nil ?_
    exact ⟨_, (Option.some.inj hf).symm, a47, c48, n49, h45_4, h45_5, h45_7, h45_11, h45_12, rfl, (hs.mask [true, true, true]).pick [0, 1, 2]⟩
  refine W.block ?_
  refine W.seqK fun K52 hK52 => ?_
  refine W.region ?_
  obtain ⟨x53, hxx53, hf⟩ := bindE hf
  refine WL.indexAddr hs 0 rfl UN50 TI72 h34_11 h34_13 hxx53 (fun ad54 hs => ?_)
  refine WL.loadP hs 0 rfl TI72 (.inl rfl) rfl (fun v55 hs => ?_)
  obtain ⟨cs56, hl57, rfl⟩ := hs.aggv (n := 4) 0 rfl rfl rfl
  refine WL.alloc hs ZV72 (fun g58 w hs => ?_)
  refine WL.storeAll (vs := cs56) hs 0 rfl TI72 rfl rfl rfl hl57 (hs.ones 0 rfl rfl) rfl (fun w hs => ?_)
  refine WL.nil ?_
  refine hK52 _ _ ?_
  refine W.seqK fun K59 hK59 => ?_
  have Jk62 : ∀ (x61 : Bool) (ρ : Env) (w : World), ρ 4 = .pointer (some ⟨g15, 0, none⟩) → ρ 5 = .pointer (some ⟨g16, 0, none⟩) → ρ 7 = .slice a36 n38 c37 → ρ 9 = .pointer (some ⟨g58, 0, none⟩) → ρ 11 = .slice a32 (x1.Entries).length c33 → ρ 12 = .int .i64 ((x1.Entries).length : Int) → ρ 13 = .int .i64 x39 → ρ 28 = .bool x61 → St ok (bz w0) w [vl (tSlice t_index_Entry) x1.Entries (.slice a32 (x1.Entries).length c33), vl t_index_Entry x53 (.agg cs56.toArray), vl t_index_Key x9 (.agg cs11.toArray), vl t_index_Key x5 (.agg cs7.toArray)] [blk g58 72 cs56, own tStr 9 (.slice a36 n38 c37) x35, blk g16 23 cs11, blk g15 23 cs7] → index_Range.j3 x35 x39 x53 x61 = some os40 → K59 ρ w := by
    intro x61 ρ w h60_4 h60_5 h60_7 h60_9 h60_11 h60_12 h60_13 h60_28 hs hf
    refine hK59 _ _ ?_
    unfold index_Range.j3 at hf
    rcases iteE hf with ⟨hc63, hf⟩ | ⟨hc63, hf⟩
    {
    refine W.cond_true (bool_tr h60_28 hc63) ?_
    refine W.region ?_
    refine WL.move (v := .slice a36 n38 c37) h60_7 ?_
    refine WL.fieldAddr (m := 3) h60_9 FA72_1 rfl ?_
    refine WL.loadF (z := x53.Objects) F_index_Entry_Objects hs 0 rfl 1 rfl rfl TI32 (.inr rfl) rfl rfl (fun v64 hs => ?_)
    obtain ⟨a65, c66, rfl⟩ := hs.slice 0 rfl
    obtain ⟨x67, hxx67, hf⟩ := bindE hf
    obtain ⟨hbx67, hex67⟩ := appE hxx67
    refine WL.appendS (zs := x67) hs 1 rfl 0 rfl UN32 UN32 EI9 rfl rfl hbx67 (by omega) hex67 (fun v68 w hs => ?_)
    obtain ⟨a69, n71, c70, rfl⟩ := hs.ownv3 1 rfl
    refine WL.assign (v := .slice a69 n71 c70) rfl ?_
    refine WL.nil ?_
    exact Jk50 x67 a69 c70 n71 _ _ h60_4 h60_5 rfl h60_11 h60_12 h60_13 ((hs.mask [false, true, true, true]).pick [1, 3, 4]) hf }
    {
    refine W.cond_false (bool_tr h60_28 hc63) ?_
    refine W.skip ?_
    exact Jk50 x35 a36 c37 n38 _ _ h60_4 h60_5 h60_7 h60_11 h60_12 h60_13 ((hs.mask [false, true, true, true]).pick [0, 2, 3]) hf }
  refine W.region ?_
  refine WL.loadAll hs 3 rfl TI23 h34_4 hl8 ?_
  refine WL.fieldAddr (m := 0) rfl FA72_0 rfl ?_
  refine WL.loadF (z := x53.Key) F_index_Entry_Key hs 0 rfl 0 rfl rfl TI23 (.inl rfl) rfl rfl (fun v72 hs => ?_)
  obtain ⟨cs73, hl74, rfl⟩ := hs.aggv (n := 3) 0 rfl rfl rfl
  obtain ⟨x75, hxx75, hf⟩ := bindE hf
  refine WL.call (vs := [.agg cs7.toArray, .agg cs73.toArray]) hs FN5 ⟨rfl, ⟨rfl, trivial⟩⟩ (fun ok hA => index_Compare.calls (x1 := x5) (x5 := x53.Key) hxx75 (hA.get 5 rfl) (hA.get 0 rfl)) ?_
  rintro _ w hs
  refine WL.bin (v := .bool (decide (x75 ≤ 0))) rfl rfl (ib_leq _ _ _) ?_
  refine WL.move (v := .bool (decide (x75 ≤ 0))) rfl ?_
  rcases iteE hf with ⟨hc76, hf⟩ | ⟨hc76, hf⟩
  {
  refine WL.fieldAddr (m := 0) rfl FA72_0 rfl ?_ (hg := (wanted_of rfl rfl (bool_tr rfl hc76)).trans rfl)
  refine WL.loadF (z := x53.Key) F_index_Entry_Key hs 0 rfl 1 rfl rfl TI23 (.inl rfl) rfl rfl (fun v77 hs => ?_) (hg := (wanted_of rfl rfl (bool_tr rfl hc76)).trans rfl)
  obtain ⟨cs78, hl79, rfl⟩ := hs.aggv (n := 3) 0 rfl rfl rfl
  refine WL.loadAll hs 2 rfl TI23 h34_5 hl12 ?_ (hg := (wanted_of rfl rfl (bool_tr rfl hc76)).trans rfl)
  obtain ⟨x80, hxx80, hf⟩ := bindE hf
  refine WL.call (vs := [.agg cs78.toArray, .agg cs11.toArray]) hs FN5 ⟨rfl, ⟨rfl, trivial⟩⟩ (fun ok hA => index_Compare.calls (x1 := x53.Key) (x5 := x9) hxx80 (hA.get 0 rfl) (hA.get 5 rfl)) ?_ (hg := (wanted_of rfl rfl (bool_tr rfl hc76)).trans rfl)
  rintro _ w hs
  refine WL.bin (v := .bool (decide (x80 ≤ 0))) rfl rfl (ib_leq _ _ _) ?_ (hg := (wanted_of rfl rfl (bool_tr rfl hc76)).trans rfl)
  refine WL.pickT (v := .bool (decide (x80 ≤ 0))) (bool_tr rfl hc76) rfl ?_
  refine WL.nil ?_
  exact Jk62 (decide (x80 ≤ 0)) _ _ h34_4 h34_5 h34_7 rfl h34_11 h34_12 h34_13 rfl ((hs.mask [true, true, true, true]).pick [4, 2, 5, 6]) hf }
  {
  refine WL.pass ((wanted_of rfl rfl (bool_tr rfl hc76)).trans rfl) rfl ?_
  refine WL.pass ((wanted_of rfl rfl (bool_tr rfl hc76)).trans rfl) rfl ?_
  refine WL.pass ((wanted_of rfl rfl (bool_tr rfl hc76)).trans rfl) rfl ?_
  refine WL.pass ((wanted_of rfl rfl (bool_tr rfl hc76)).trans rfl) rfl ?_
  refine WL.pass ((wanted_of rfl rfl (bool_tr rfl hc76)).trans rfl) rfl ?_
  refine WL.pickF (v := .bool false) (bool_tr rfl hc76) rfl ?_
  refine WL.nil ?_
  exact Jk62 false _ _ h34_4 h34_5 h34_7 rfl h34_11 h34_12 h34_13 rfl ((hs.mask [true, true, true, true]).pick [3, 1, 4, 5]) hf } }
  {
  refine W.cond_false (bool_tr rfl hc43) ?_
  refine W.exit ?_
  have hr := Option.some.inj hf; subst hr
  have hr := hbbs40 _ rfl; subst hr
  have hf := hfs40
  exact Jk24 x35 a36 c37 n38 _ _ h34_7 ((hs.mask [true]).pick []) hf }
theorem index_Lookup.calls {ok : Nat → Prop} {w0 : World} {x1 : index_Index} {x5 : index_Key} {v2 : Value} {v6 : Value} {r : List (List UInt8)} (hf : index_Lookup x1 x5 = some r) (i0 : (vl t_index_Index x1 v2).holds ok w0) (i1 : (vl t_index_Key x5 v6).holds ok w0) :
    Calls Try.prog 18 #[v2, v6] w0 fun e w' => ∃ v, e = .returned v ∧ ∃ y : (Option Addr × Nat × Nat), v = .slice y.1 y.2.1 y.2.2 ∧ St ok (bz w0) w' [] [own tStr 9 (.slice y.1 y.2.1 y.2.2) r] := by
  unfold index_Lookup at hf
  refine calls_of_W (fn := Try.f18) (N := 9) Try.func18 rfl Try.ntmps18 rfl ?_
  have hs : St ok (bz w0) w0 [vl t_index_Index x1 v2, vl t_index_Key x5 v6] [] := St.init (All.cons i0 (All.cons i1 All.nil))
  clear i0 i1
  obtain ⟨cs3, hl4, rfl⟩ := hs.aggv (n := 5) 0 rfl rfl rfl
  obtain ⟨cs7, hl8, rfl⟩ := hs.aggv (n := 3) 1 rfl rfl rfl
  refine W.seqK fun K9 hK9 => ?_
  refine W.region ?_
  refine WL.box (vs := cs3) hs rfl rfl (fun g10 w hs => ?_)
  refine WL.box (vs := cs7) hs rfl rfl (fun g11 w hs => ?_)
  refine WL.assign (v := .slice none 0 0) rfl ?_
  refine WL.nil ?_
  refine hK9 _ _ ?_
  refine W.seqK fun K12 hK12 => ?_
  refine W.region ?_
  refine WL.loadAll hs 1 rfl TI52 rfl hl4 ?_
  refine WL.loadAll hs 0 rfl TI23 rfl hl8 ?_
  refine WL.loadAll hs 0 rfl TI23 rfl hl8 ?_
  obtain ⟨x13, hxx13, hf⟩ := bindE hf
  refine WL.call (vs := [.agg cs3.toArray, .agg cs7.toArray, .agg cs7.toArray]) hs FN19 ⟨rfl, ⟨rfl, ⟨rfl, trivial⟩⟩⟩ (fun ok hA => index_Range.calls (x1 := x1) (x5 := x5) (x9 := x5) hxx13 (hA.get 0 rfl) (hA.get 1 rfl) (hA.get 1 rfl)) ?_
  rintro ⟨a14, n15, c16⟩ w hs
  refine WL.assign (v := .slice a14 n15 c16) rfl ?_
  refine WL.nil ?_
  refine hK12 _ _ ?_
  refine W.ret ?_
  have hr := Option.some.inj hf; subst hr
  exact ⟨_, resOk_one rfl rfl, (a14, n15, c16), rfl, (hs.mask [true]).pick []⟩
end Go.Proofs.Ytpfgdjfiimknlaa
set_option linter.unusedVariables false
set_option linter.unusedSimpArgs false
namespace Go.Proofs.Ytpfgdjfiimknlaa
open Go Go.RowKit Go.Proofs.YtpfgdjfiimknlaaL
set_option maxRecDepth 100000
set_option maxHeartbeats 4000000
theorem eslaw32_awake.calls {ok : Nat → Prop} {w0 : World}   {r : Bool} (hf : eslaw32_awake = some r)  :
    Calls Try.prog 8 #[] w0 fun e w' => ∃ v, e = .returned v ∧ ∃ y : Unit, v = .bool r ∧ St ok (bz w0) w' [] [] := by
  unfold eslaw32_awake at hf
  refine calls_of_W (fn := Try.f8) (N := 77) Try.func8 rfl Try.ntmps8 rfl ?_
  have hs : St ok (bz w0) w0 [] [] := St.init All.nil
  refine W.seqK fun K1 hK1 => ?_
  refine W.region ?_
  refine WL.assign (v := .bool false) rfl ?_
  refine WL.nil ?_
  refine hK1 _ _ ?_
  refine W.seqK fun K2 hK2 => ?_
  refine W.region ?_
  refine WL.build (vs := []) (cs := [.slice none 0 0]) trivial (bld PL41 rfl) ?_
  refine WL.alloc hs ZV41 (fun g3 w hs => ?_)
  refine WL.storeAll (vs := [.slice none 0 0]) hs 0 rfl TI41 rfl rfl rfl rfl (ones_of rfl) rfl (fun w hs => ?_)
  refine WL.nil ?_
  refine hK2 _ _ ?_
  refine W.seqK fun K4 hK4 => ?_
  have Jk9 : ∀ (x6 : List fold_Object) (a7 : Option Addr) (c8 : Nat) (ρ : Env) (w : World), ρ 1 = .pointer (some ⟨g3, 0, none⟩) → St ok (bz w0) w [vl (tSlice t_fold_Object) x6 (.slice a7 x6.length c8)] [blk g3 41 [.slice a7 x6.length c8]] → eslaw32_awake.j2 x6 = some r → K4 ρ w := by
    intro x6 a7 c8 ρ w h5_1 hs hf
    refine hK4 _ _ ?_
    unfold eslaw32_awake.j2 at hf
    refine W.seqK fun K10 hK10 => ?_
    refine W.region ?_
    refine WL.build (vs := [(0, bstr ([111, 119, 110, 101, 114] : List UInt8)), (1, .int .i64 1), (2, .int .i64 2)]) (cs := [bstr ([111, 119, 110, 101, 114] : List UInt8), .int .i64 1, .int .i64 2, .int .i64 0]) ⟨⟨rfl, rfl⟩, ⟨⟨rfl, rfl⟩, ⟨⟨rfl, rfl⟩, trivial⟩⟩⟩ (bld PL49 rfl) ?_
    refine WL.loadN (vs := [.slice a7 x6.length c8]) hs 0 rfl TI41 h5_1 rfl rfl ?_
    have hs := hs.add (it := vl t_schema_Field (⟨([111, 119, 110, 101, 114] : List UInt8), 1, 2, 0⟩ : schema_Field) (.agg ([bstr ([111, 119, 110, 101, 114] : List UInt8), .int .i64 1, .int .i64 2, .int .i64 0]).toArray)) fun ok hA => V_agg (show t_schema_Field.R ok _ _ _ from ⟨([bstr ([111, 119, 110, 101, 114] : List UInt8)]), [.int .i64 1, .int .i64 2, .int .i64 0], rfl, rfl, ⟨[.int .i64 1], [.int .i64 2, .int .i64 0], rfl, rfl, ⟨[.int .i64 2], [.int .i64 0], rfl, rfl, rfl⟩⟩⟩) rfl
    have hs := hs.add (it := vl t_fold_Store (⟨x6⟩ : fold_Store) (.agg [.slice a7 x6.length c8].toArray)) fun ok hA => V_agg ((R_one (hA.get 1 rfl))) rfl
    obtain ⟨x11, hxx11, hf⟩ := bindE hf
    refine WL.call (vs := [.agg ([bstr ([111, 119, 110, 101, 114] : List UInt8), .int .i64 1, .int .i64 2, .int .i64 0] : List Value).toArray, .agg ([.slice a7 x6.length c8] : List Value).toArray]) hs FN17 ⟨rfl, ⟨rfl, trivial⟩⟩ (fun ok hA => index_Build.calls (x1 := (⟨([111, 119, 110, 101, 114] : List UInt8), 1, 2, 0⟩ : schema_Field)) (x5 := (⟨x6⟩ : fold_Store)) hxx11 (hA.get 1 rfl) (hA.get 0 rfl)) ?_
    rintro cs12 w hs
    have hl13 := hs.agglen (n := 5) 0 rfl rfl rfl
    refine WL.alloc hs ZV52 (fun g14 w hs => ?_)
    refine WL.storeAll (vs := cs12) hs 0 rfl TI52 rfl rfl rfl hl13 (hs.ones 0 rfl rfl) rfl (fun w hs => ?_)
    refine WL.nil ?_
    refine hK10 _ _ ?_
    refine W.seqK fun K15 hK15 => ?_
    refine W.region ?_
    refine WL.loadAll hs 0 rfl TI52 rfl hl13 ?_
    refine WL.build (vs := [(0, .int .i64 2), (2, bstr ([97, 110, 110] : List UInt8))]) (cs := [.int .i64 2, .int .i64 0, bstr ([97, 110, 110] : List UInt8)]) ⟨⟨rfl, rfl⟩, ⟨⟨rfl, rfl⟩, trivial⟩⟩ (bld PL23 rfl) ?_
    have hs := hs.add (it := vl t_index_Key (⟨2, 0, ([97, 110, 110] : List UInt8)⟩ : index_Key) (.agg ([.int .i64 2, .int .i64 0, bstr ([97, 110, 110] : List UInt8)]).toArray)) fun ok hA => V_agg (show t_index_Key.R ok _ _ _ from ⟨[.int .i64 2], ([.int .i64 0, bstr ([97, 110, 110] : List UInt8)]), rfl, rfl, ⟨[.int .i64 0], ([bstr ([97, 110, 110] : List UInt8)]), rfl, rfl, rfl⟩⟩) rfl
    obtain ⟨x16, hxx16, hf⟩ := bindE hf
    refine WL.call (vs := [.agg cs12.toArray, .agg ([.int .i64 2, .int .i64 0, bstr ([97, 110, 110] : List UInt8)] : List Value).toArray]) hs FN18 ⟨rfl, ⟨rfl, trivial⟩⟩ (fun ok hA => index_Lookup.calls (x1 := x11) (x5 := (⟨2, 0, ([97, 110, 110] : List UInt8)⟩ : index_Key)) hxx16 (hA.get 1 rfl) (hA.get 0 rfl)) ?_
    rintro ⟨a17, n18, c19⟩ w hs
    refine WL.assign (v := .slice a17 n18 c19) rfl ?_
    refine WL.nil ?_
    refine hK15 _ _ ?_
    refine W.seqK fun K20 hK20 => ?_
    refine W.region ?_
    refine WL.loadAll hs 1 rfl TI52 rfl hl13 ?_
    refine WL.build (vs := [(0, .int .i64 2), (2, bstr ([98] : List UInt8))]) (cs := [.int .i64 2, .int .i64 0, bstr ([98] : List UInt8)]) ⟨⟨rfl, rfl⟩, ⟨⟨rfl, rfl⟩, trivial⟩⟩ (bld PL23 rfl) ?_
    refine WL.build (vs := [(0, .int .i64 2), (2, bstr ([99] : List UInt8))]) (cs := [.int .i64 2, .int .i64 0, bstr ([99] : List UInt8)]) ⟨⟨rfl, rfl⟩, ⟨⟨rfl, rfl⟩, trivial⟩⟩ (bld PL23 rfl) ?_
    have hs := hs.add (it := vl t_index_Key (⟨2, 0, ([98] : List UInt8)⟩ : index_Key) (.agg ([.int .i64 2, .int .i64 0, bstr ([98] : List UInt8)]).toArray)) fun ok hA => V_agg (show t_index_Key.R ok _ _ _ from ⟨[.int .i64 2], ([.int .i64 0, bstr ([98] : List UInt8)]), rfl, rfl, ⟨[.int .i64 0], ([bstr ([98] : List UInt8)]), rfl, rfl, rfl⟩⟩) rfl
    have hs := hs.add (it := vl t_index_Key (⟨2, 0, ([99] : List UInt8)⟩ : index_Key) (.agg ([.int .i64 2, .int .i64 0, bstr ([99] : List UInt8)]).toArray)) fun ok hA => V_agg (show t_index_Key.R ok _ _ _ from ⟨[.int .i64 2], ([.int .i64 0, bstr ([99] : List UInt8)]), rfl, rfl, ⟨[.int .i64 0], ([bstr ([99] : List UInt8)]), rfl, rfl, rfl⟩⟩) rfl
    obtain ⟨x21, hxx21, hf⟩ := bindE hf
    refine WL.call (vs := [.agg cs12.toArray, .agg ([.int .i64 2, .int .i64 0, bstr ([98] : List UInt8)] : List Value).toArray, .agg ([.int .i64 2, .int .i64 0, bstr ([99] : List UInt8)] : List Value).toArray]) hs FN19 ⟨rfl, ⟨rfl, ⟨rfl, trivial⟩⟩⟩ (fun ok hA => index_Range.calls (x1 := x11) (x5 := (⟨2, 0, ([98] : List UInt8)⟩ : index_Key)) (x9 := (⟨2, 0, ([99] : List UInt8)⟩ : index_Key)) hxx21 (hA.get 3 rfl) (hA.get 1 rfl) (hA.get 0 rfl)) ?_
    rintro ⟨a22, n23, c24⟩ w hs
    refine WL.assign (v := .slice a22 n23 c24) rfl ?_
    refine WL.nil ?_
    refine hK20 _ _ ?_
    refine W.seqK fun K25 hK25 => ?_
    have Jk28 : ∀ (x27 : Bool) (ρ : Env) (w : World), ρ 0 = .bool x27 → St ok (bz w0) w [] [] → eslaw32_awake.j1 x27 = some r → K25 ρ w := by
      intro x27 ρ w h26_0 hs hf
      refine hK25 _ _ ?_
      unfold eslaw32_awake.j1 at hf
      refine W.ret ?_
      have hr := Option.some.inj hf; subst hr
      exact ⟨_, resOk_one rfl h26_0, (), rfl, (hs.mask []).pick []⟩
    refine W.region ?_
    refine WL.fieldAddr (m := 4) rfl FA52_1 rfl ?_
    refine WL.loadF (z := x11.Entries) F_index_Index_Entries hs 2 rfl 3 rfl rfl TI50 (.inr rfl) rfl rfl (fun v29 hs => ?_)
    obtain ⟨a30, c31, rfl⟩ := hs.slice 0 rfl
    refine WL.len (v := .slice a30 (x11.Entries).length c31) rfl (len_slice UN50) ?_
    refine WL.bin (v := .bool (((x11.Entries).length : Int) == 2)) rfl rfl (ib_eql _ _ _) ?_
    refine WL.move (v := .bool (((x11.Entries).length : Int) == 2)) rfl ?_
    rcases iteE hf with ⟨hc32, hf⟩ | ⟨hc32, hf⟩
    {
    refine WL.move (v := .slice a17 n18 c19) rfl ?_ (hg := (wanted_of rfl rfl (bool_tr rfl hc32)).trans rfl)
    refine WL.len (v := .slice a17 n18 c19) rfl (len_own hs 1 rfl UN32) ?_ (hg := (wanted_of rfl rfl (bool_tr rfl hc32)).trans rfl)
    refine WL.bin (v := .bool ((x16.length : Int) == 2)) rfl rfl (ib_eql _ _ _) ?_ (hg := (wanted_of rfl rfl (bool_tr rfl hc32)).trans rfl)
    refine WL.pickT (v := .bool ((x16.length : Int) == 2)) (bool_tr rfl hc32) rfl ?_
    refine WL.move (v := .bool ((x16.length : Int) == 2)) rfl ?_
    rcases iteE hf with ⟨hc33, hf⟩ | ⟨hc33, hf⟩
    {
    refine WL.move (v := .slice a17 n18 c19) rfl ?_ (hg := (wanted_of rfl rfl (bool_tr rfl hc33)).trans rfl)
    obtain ⟨x34, hxx34, hf⟩ := bindE hf
    refine WL.indexAddrO hs 1 rfl UN32 TI9 rfl rfl hxx34 (fun ad35 hatad35 => ?_) (hg := (wanted_of rfl rfl (bool_tr rfl hc33)).trans rfl)
    refine WL.loadO hs 1 rfl TI9 (.inr rfl) hatad35 hxx34 rfl (fun v36 hs => ?_) (hg := (wanted_of rfl rfl (bool_tr rfl hc33)).trans rfl)
    obtain rfl := hs.str 0 rfl
    refine WL.binS (v := .bool (x34 == ([97] : List UInt8))) rfl rfl (sb_eql _ _) ?_ (hg := (wanted_of rfl rfl (bool_tr rfl hc33)).trans rfl)
    refine WL.pickT (v := .bool (x34 == ([97] : List UInt8))) (bool_tr rfl hc33) rfl ?_
    refine WL.move (v := .bool (x34 == ([97] : List UInt8))) rfl ?_
    rcases iteE hf with ⟨hc37, hf⟩ | ⟨hc37, hf⟩
    {
    refine WL.move (v := .slice a17 n18 c19) rfl ?_ (hg := (wanted_of rfl rfl (bool_tr rfl hc37)).trans rfl)
    obtain ⟨x38, hxx38, hf⟩ := bindE hf
    refine WL.indexAddrO hs 1 rfl UN32 TI9 rfl rfl hxx38 (fun ad39 hatad39 => ?_) (hg := (wanted_of rfl rfl (bool_tr rfl hc37)).trans rfl)
    refine WL.loadO hs 1 rfl TI9 (.inr rfl) hatad39 hxx38 rfl (fun v40 hs => ?_) (hg := (wanted_of rfl rfl (bool_tr rfl hc37)).trans rfl)
    obtain rfl := hs.str 0 rfl
    refine WL.binS (v := .bool (x38 == ([98] : List UInt8))) rfl rfl (sb_eql _ _) ?_ (hg := (wanted_of rfl rfl (bool_tr rfl hc37)).trans rfl)
    refine WL.pickT (v := .bool (x38 == ([98] : List UInt8))) (bool_tr rfl hc37) rfl ?_
    refine WL.move (v := .bool (x38 == ([98] : List UInt8))) rfl ?_
    rcases iteE hf with ⟨hc41, hf⟩ | ⟨hc41, hf⟩
    {
    refine WL.move (v := .slice a22 n23 c24) rfl ?_ (hg := (wanted_of rfl rfl (bool_tr rfl hc41)).trans rfl)
    refine WL.len (v := .slice a22 n23 c24) rfl (len_own hs 0 rfl UN32) ?_ (hg := (wanted_of rfl rfl (bool_tr rfl hc41)).trans rfl)
    refine WL.bin (v := .bool ((x21.length : Int) == 1)) rfl rfl (ib_eql _ _ _) ?_ (hg := (wanted_of rfl rfl (bool_tr rfl hc41)).trans rfl)
    refine WL.pickT (v := .bool ((x21.length : Int) == 1)) (bool_tr rfl hc41) rfl ?_
    refine WL.move (v := .bool ((x21.length : Int) == 1)) rfl ?_
    rcases iteE hf with ⟨hc42, hf⟩ | ⟨hc42, hf⟩
    {
    refine WL.move (v := .slice a22 n23 c24) rfl ?_ (hg := (wanted_of rfl rfl (bool_tr rfl hc42)).trans rfl)
    obtain ⟨x43, hxx43, hf⟩ := bindE hf
    refine WL.indexAddrO hs 0 rfl UN32 TI9 rfl rfl hxx43 (fun ad44 hatad44 => ?_) (hg := (wanted_of rfl rfl (bool_tr rfl hc42)).trans rfl)
    refine WL.loadO hs 0 rfl TI9 (.inr rfl) hatad44 hxx43 rfl (fun v45 hs => ?_) (hg := (wanted_of rfl rfl (bool_tr rfl hc42)).trans rfl)
    obtain rfl := hs.str 0 rfl
    refine WL.binS (v := .bool (x43 == ([99] : List UInt8))) rfl rfl (sb_eql _ _) ?_ (hg := (wanted_of rfl rfl (bool_tr rfl hc42)).trans rfl)
    refine WL.pickT (v := .bool (x43 == ([99] : List UInt8))) (bool_tr rfl hc42) rfl ?_
    refine WL.move (v := .bool (x43 == ([99] : List UInt8))) rfl ?_
    rcases iteE hf with ⟨hc46, hf⟩ | ⟨hc46, hf⟩
    {
    refine WL.loadAll hs 2 rfl TI52 rfl hl13 ?_ (hg := (wanted_of rfl rfl (bool_tr rfl hc46)).trans rfl)
    refine WL.build (vs := []) (cs := [.int .i64 0, .int .i64 0, bstr []]) trivial (bld PL23 rfl) ?_ (hg := (wanted_of rfl rfl (bool_tr rfl hc46)).trans rfl)
    have hs := hs.add (it := vl t_index_Key (⟨0, 0, []⟩ : index_Key) (.agg ([.int .i64 0, .int .i64 0, bstr []]).toArray)) fun ok hA => V_agg (show t_index_Key.R ok _ _ _ from ⟨[.int .i64 0], ([.int .i64 0, bstr []]), rfl, rfl, ⟨[.int .i64 0], ([bstr []]), rfl, rfl, rfl⟩⟩) rfl
    obtain ⟨x47, hxx47, hf⟩ := bindE hf
    refine WL.call (vs := [.agg cs12.toArray, .agg ([.int .i64 0, .int .i64 0, bstr []] : List Value).toArray]) hs FN18 ⟨rfl, ⟨rfl, trivial⟩⟩ (fun ok hA => index_Lookup.calls (x1 := x11) (x5 := (⟨0, 0, []⟩ : index_Key)) hxx47 (hA.get 8 rfl) (hA.get 0 rfl)) ?_ (hg := (wanted_of rfl rfl (bool_tr rfl hc46)).trans rfl)
    rintro ⟨a48, n49, c50⟩ w hs
    refine WL.len (v := .slice a48 n49 c50) rfl (len_own hs 0 rfl UN32) ?_ (hg := (wanted_of rfl rfl (bool_tr rfl hc46)).trans rfl)
    refine WL.bin (v := .bool ((x47.length : Int) == 0)) rfl rfl (ib_eql _ _ _) ?_ (hg := (wanted_of rfl rfl (bool_tr rfl hc46)).trans rfl)
    refine WL.pickT (v := .bool ((x47.length : Int) == 0)) (bool_tr rfl hc46) rfl ?_
    refine WL.assign (v := .bool ((x47.length : Int) == 0)) rfl ?_
    refine WL.nil ?_
    exact Jk28 ((x47.length : Int) == 0) _ _ rfl ((hs.mask []).pick []) hf }
    {
    refine WL.pass ((wanted_of rfl rfl (bool_tr rfl hc46)).trans rfl) rfl ?_
    refine WL.pass ((wanted_of rfl rfl (bool_tr rfl hc46)).trans rfl) rfl ?_
    refine WL.pass ((wanted_of rfl rfl (bool_tr rfl hc46)).trans rfl) rfl ?_
    refine WL.pass ((wanted_of rfl rfl (bool_tr rfl hc46)).trans rfl) rfl ?_
    refine WL.pass ((wanted_of rfl rfl (bool_tr rfl hc46)).trans rfl) rfl ?_
    refine WL.pickF (v := .bool false) (bool_tr rfl hc46) rfl ?_
    refine WL.assign (v := .bool false) rfl ?_
    refine WL.nil ?_
    exact Jk28 false _ _ rfl ((hs.mask []).pick []) hf } }
    {
    refine WL.pass ((wanted_of rfl rfl (bool_tr rfl hc42)).trans rfl) rfl ?_
    refine WL.pass ((wanted_of rfl rfl (bool_tr rfl hc42)).trans rfl) rfl ?_
    refine WL.pass ((wanted_of rfl rfl (bool_tr rfl hc42)).trans rfl) rfl ?_
    refine WL.pass ((wanted_of rfl rfl (bool_tr rfl hc42)).trans rfl) rfl ?_
    refine WL.pickF (v := .bool false) (bool_tr rfl hc42) rfl ?_
    refine WL.move (v := .bool false) rfl ?_
    refine WL.pass ((wanted_of rfl rfl rfl).trans rfl) rfl ?_
    refine WL.pass ((wanted_of rfl rfl rfl).trans rfl) rfl ?_
    refine WL.pass ((wanted_of rfl rfl rfl).trans rfl) rfl ?_
    refine WL.pass ((wanted_of rfl rfl rfl).trans rfl) rfl ?_
    refine WL.pass ((wanted_of rfl rfl rfl).trans rfl) rfl ?_
    refine WL.pickF (v := .bool false) rfl rfl ?_
    refine WL.assign (v := .bool false) rfl ?_
    refine WL.nil ?_
    exact Jk28 false _ _ rfl ((hs.mask []).pick []) hf } }
    {
    refine WL.pass ((wanted_of rfl rfl (bool_tr rfl hc41)).trans rfl) rfl ?_
    refine WL.pass ((wanted_of rfl rfl (bool_tr rfl hc41)).trans rfl) rfl ?_
    refine WL.pass ((wanted_of rfl rfl (bool_tr rfl hc41)).trans rfl) rfl ?_
    refine WL.pickF (v := .bool false) (bool_tr rfl hc41) rfl ?_
    refine WL.move (v := .bool false) rfl ?_
    refine WL.pass ((wanted_of rfl rfl rfl).trans rfl) rfl ?_
    refine WL.pass ((wanted_of rfl rfl rfl).trans rfl) rfl ?_
    refine WL.pass ((wanted_of rfl rfl rfl).trans rfl) rfl ?_
    refine WL.pass ((wanted_of rfl rfl rfl).trans rfl) rfl ?_
    refine WL.pickF (v := .bool false) rfl rfl ?_
    refine WL.move (v := .bool false) rfl ?_
    refine WL.pass ((wanted_of rfl rfl rfl).trans rfl) rfl ?_
    refine WL.pass ((wanted_of rfl rfl rfl).trans rfl) rfl ?_
    refine WL.pass ((wanted_of rfl rfl rfl).trans rfl) rfl ?_
    refine WL.pass ((wanted_of rfl rfl rfl).trans rfl) rfl ?_
    refine WL.pass ((wanted_of rfl rfl rfl).trans rfl) rfl ?_
    refine WL.pickF (v := .bool false) rfl rfl ?_
    refine WL.assign (v := .bool false) rfl ?_
    refine WL.nil ?_
    exact Jk28 false _ _ rfl ((hs.mask []).pick []) hf } }
    {
    refine WL.pass ((wanted_of rfl rfl (bool_tr rfl hc37)).trans rfl) rfl ?_
    refine WL.pass ((wanted_of rfl rfl (bool_tr rfl hc37)).trans rfl) rfl ?_
    refine WL.pass ((wanted_of rfl rfl (bool_tr rfl hc37)).trans rfl) rfl ?_
    refine WL.pass ((wanted_of rfl rfl (bool_tr rfl hc37)).trans rfl) rfl ?_
    refine WL.pickF (v := .bool false) (bool_tr rfl hc37) rfl ?_
    refine WL.move (v := .bool false) rfl ?_
    refine WL.pass ((wanted_of rfl rfl rfl).trans rfl) rfl ?_
    refine WL.pass ((wanted_of rfl rfl rfl).trans rfl) rfl ?_
    refine WL.pass ((wanted_of rfl rfl rfl).trans rfl) rfl ?_
    refine WL.pickF (v := .bool false) rfl rfl ?_
    refine WL.move (v := .bool false) rfl ?_
    refine WL.pass ((wanted_of rfl rfl rfl).trans rfl) rfl ?_
    refine WL.pass ((wanted_of rfl rfl rfl).trans rfl) rfl ?_
    refine WL.pass ((wanted_of rfl rfl rfl).trans rfl) rfl ?_
    refine WL.pass ((wanted_of rfl rfl rfl).trans rfl) rfl ?_
    refine WL.pickF (v := .bool false) rfl rfl ?_
    refine WL.move (v := .bool false) rfl ?_
    refine WL.pass ((wanted_of rfl rfl rfl).trans rfl) rfl ?_
    refine WL.pass ((wanted_of rfl rfl rfl).trans rfl) rfl ?_
    refine WL.pass ((wanted_of rfl rfl rfl).trans rfl) rfl ?_
    refine WL.pass ((wanted_of rfl rfl rfl).trans rfl) rfl ?_
    refine WL.pass ((wanted_of rfl rfl rfl).trans rfl) rfl ?_
    refine WL.pickF (v := .bool false) rfl rfl ?_
    refine WL.assign (v := .bool false) rfl ?_
    refine WL.nil ?_
    exact Jk28 false _ _ rfl ((hs.mask []).pick []) hf } }
    {
    refine WL.pass ((wanted_of rfl rfl (bool_tr rfl hc33)).trans rfl) rfl ?_
    refine WL.pass ((wanted_of rfl rfl (bool_tr rfl hc33)).trans rfl) rfl ?_
    refine WL.pass ((wanted_of rfl rfl (bool_tr rfl hc33)).trans rfl) rfl ?_
    refine WL.pass ((wanted_of rfl rfl (bool_tr rfl hc33)).trans rfl) rfl ?_
    refine WL.pickF (v := .bool false) (bool_tr rfl hc33) rfl ?_
    refine WL.move (v := .bool false) rfl ?_
    refine WL.pass ((wanted_of rfl rfl rfl).trans rfl) rfl ?_
    refine WL.pass ((wanted_of rfl rfl rfl).trans rfl) rfl ?_
    refine WL.pass ((wanted_of rfl rfl rfl).trans rfl) rfl ?_
    refine WL.pass ((wanted_of rfl rfl rfl).trans rfl) rfl ?_
    refine WL.pickF (v := .bool false) rfl rfl ?_
    refine WL.move (v := .bool false) rfl ?_
    refine WL.pass ((wanted_of rfl rfl rfl).trans rfl) rfl ?_
    refine WL.pass ((wanted_of rfl rfl rfl).trans rfl) rfl ?_
    refine WL.pass ((wanted_of rfl rfl rfl).trans rfl) rfl ?_
    refine WL.pickF (v := .bool false) rfl rfl ?_
    refine WL.move (v := .bool false) rfl ?_
    refine WL.pass ((wanted_of rfl rfl rfl).trans rfl) rfl ?_
    refine WL.pass ((wanted_of rfl rfl rfl).trans rfl) rfl ?_
    refine WL.pass ((wanted_of rfl rfl rfl).trans rfl) rfl ?_
    refine WL.pass ((wanted_of rfl rfl rfl).trans rfl) rfl ?_
    refine WL.pickF (v := .bool false) rfl rfl ?_
    refine WL.move (v := .bool false) rfl ?_
    refine WL.pass ((wanted_of rfl rfl rfl).trans rfl) rfl ?_
    refine WL.pass ((wanted_of rfl rfl rfl).trans rfl) rfl ?_
    refine WL.pass ((wanted_of rfl rfl rfl).trans rfl) rfl ?_
    refine WL.pass ((wanted_of rfl rfl rfl).trans rfl) rfl ?_
    refine WL.pass ((wanted_of rfl rfl rfl).trans rfl) rfl ?_
    refine WL.pickF (v := .bool false) rfl rfl ?_
    refine WL.assign (v := .bool false) rfl ?_
    refine WL.nil ?_
    exact Jk28 false _ _ rfl ((hs.mask []).pick []) hf } }
    {
    refine WL.pass ((wanted_of rfl rfl (bool_tr rfl hc32)).trans rfl) rfl ?_
    refine WL.pass ((wanted_of rfl rfl (bool_tr rfl hc32)).trans rfl) rfl ?_
    refine WL.pass ((wanted_of rfl rfl (bool_tr rfl hc32)).trans rfl) rfl ?_
    refine WL.pickF (v := .bool false) (bool_tr rfl hc32) rfl ?_
    refine WL.move (v := .bool false) rfl ?_
    refine WL.pass ((wanted_of rfl rfl rfl).trans rfl) rfl ?_
    refine WL.pass ((wanted_of rfl rfl rfl).trans rfl) rfl ?_
    refine WL.pass ((wanted_of rfl rfl rfl).trans rfl) rfl ?_
    refine WL.pass ((wanted_of rfl rfl rfl).trans rfl) rfl ?_
    refine WL.pickF (v := .bool false) rfl rfl ?_
    refine WL.move (v := .bool false) rfl ?_
    refine WL.pass ((wanted_of rfl rfl rfl).trans rfl) rfl ?_
    refine WL.pass ((wanted_of rfl rfl rfl).trans rfl) rfl ?_
    refine WL.pass ((wanted_of rfl rfl rfl).trans rfl) rfl ?_
    refine WL.pass ((wanted_of rfl rfl rfl).trans rfl) rfl ?_
    refine WL.pickF (v := .bool false) rfl rfl ?_
    refine WL.move (v := .bool false) rfl ?_
    refine WL.pass ((wanted_of rfl rfl rfl).trans rfl) rfl ?_
    refine WL.pass ((wanted_of rfl rfl rfl).trans rfl) rfl ?_
    refine WL.pass ((wanted_of rfl rfl rfl).trans rfl) rfl ?_
    refine WL.pickF (v := .bool false) rfl rfl ?_
    refine WL.move (v := .bool false) rfl ?_
    refine WL.pass ((wanted_of rfl rfl rfl).trans rfl) rfl ?_
    refine WL.pass ((wanted_of rfl rfl rfl).trans rfl) rfl ?_
    refine WL.pass ((wanted_of rfl rfl rfl).trans rfl) rfl ?_
    refine WL.pass ((wanted_of rfl rfl rfl).trans rfl) rfl ?_
    refine WL.pickF (v := .bool false) rfl rfl ?_
    refine WL.move (v := .bool false) rfl ?_
    refine WL.pass ((wanted_of rfl rfl rfl).trans rfl) rfl ?_
    refine WL.pass ((wanted_of rfl rfl rfl).trans rfl) rfl ?_
    refine WL.pass ((wanted_of rfl rfl rfl).trans rfl) rfl ?_
    refine WL.pass ((wanted_of rfl rfl rfl).trans rfl) rfl ?_
    refine WL.pass ((wanted_of rfl rfl rfl).trans rfl) rfl ?_
    refine WL.pickF (v := .bool false) rfl rfl ?_
    refine WL.assign (v := .bool false) rfl ?_
    refine WL.nil ?_
    exact Jk28 false _ _ rfl ((hs.mask []).pick []) hf }
  refine W.seqK fun K51 hK51 => ?_
  refine W.region ?_
  refine WL.buildSlice (n := 3) (vs := [(0, bstr ([98] : List UInt8)), (1, bstr ([97] : List UInt8)), (2, bstr ([99] : List UInt8))]) (cs := [bstr ([98] : List UInt8), bstr ([97] : List UInt8), bstr ([99] : List UInt8)]) hs ⟨⟨rfl, rfl⟩, ⟨⟨rfl, rfl⟩, ⟨⟨rfl, rfl⟩, trivial⟩⟩⟩ (bls PS32 (by decide) rfl) (fun g52 w hs => ?_)
  refine WL.len (v := .slice (some ⟨g52, 0, none⟩) ([([98] : List UInt8), ([97] : List UInt8), ([99] : List UInt8)]).length 3) rfl (len_slice UN32) ?_
  refine WL.move (v := .int .i64 0) rfl ?_
  refine WL.nil ?_
  refine hK51 _ _ ?_
  refine W.block ?_
  have hs := hs.ownLit (A := tStr) (xs := [([98] : List UInt8), ([97] : List UInt8), ([99] : List UInt8)]) 0 rfl (fun ok hA => (Cells.app (Cells.one (T := tStr) rfl) (Cells.app (Cells.one (T := tStr) rfl) (Cells.one (T := tStr) rfl)))) (Nat.le_of_ble_eq_true rfl)
  have hs := hs.freezeOwn 0 rfl
  obtain ⟨bs58, hbs58, hfs58⟩ := bindE hf
  have hs := hs.add (it := vl (tSlice t_fold_Object) [] (.slice none 0 0)) fun ok hA => V_nil
  refine W.loop hbs58 (fun s ρ w => match s with | (x54, x55) => ∃ (a56 : Option Addr), ∃ (c57 : Nat), ρ 1 = .pointer (some ⟨g3, 0, none⟩) ∧ ρ 8 = .slice (some ⟨g52, 0, none⟩) ([([98] : List UInt8), ([97] : List UInt8), ([99] : List UInt8)]).length 3 ∧ ρ 9 = .int .i64 (([([98] : List UInt8), ([97] : List UInt8), ([99] : List UInt8)]).length : Int) ∧ ρ 10 = .int .i64 x54 ∧ St ok (bz w0) w [vl (tSlice tStr) ([([98] : List UInt8), ([97] : List UInt8), ([99] : List UInt8)]) (.slice (some ⟨g52, 0, none⟩) ([([98] : List UInt8), ([97] : List UInt8), ([99] : List UInt8)]).length 3), vl (tSlice t_fold_Object) x55 (.slice a56 x55.length c57)] [blk g3 41 [.slice a56 x55.length c57]]) ⟨none, 0, rfl, rfl, rfl, rfl, (hs.mask [true]).pick [1, 0]⟩ ?_
  intro s ρ w os58 hI hf hbbs58
  obtain ⟨x54, x55⟩ := s
  obtain ⟨a56, c57, h53_1, h53_8, h53_9, h53_10, hs⟩ := hI
  unfold eslaw32_awake.l1 at hf
  refine W.seqK fun K59 hK59 => ?_
  refine W.region ?_
  refine WL.bin (v := .bool (decide (x54 < (([([98] : List UInt8), ([97] : List UInt8), ([99] : List UInt8)]).length : Int)))) h53_10 h53_9 (ib_lss _ _ _) ?_
  refine WL.nil ?_
  refine hK59 _ _ ?_
  refine W.seqK fun K60 hK60 => ?_
  rcases iteE hf with ⟨hc61, hf⟩ | ⟨hc61, hf⟩
  {
  refine W.cond_true (bool_tr rfl hc61) ?_
  refine W.skip ?_
  refine hK60 _ _ ?_
  refine W.seqK fun K62 hK62 => ?_
  refine W.block ?_
  refine W.seqK fun K63 hK63 => ?_
  refine W.region ?_
  refine WL.move (v := .int .i64 x54) h53_10 ?_
  obtain ⟨x64, hxx64, hf⟩ := bindE hf
  refine WL.indexAddr hs 0 rfl UN32 TI9 h53_8 h53_10 hxx64 (fun ad65 hs => ?_)
  refine WL.loadP hs 0 rfl TI9 (.inr rfl) rfl (fun v66 hs => ?_)
  obtain rfl := hs.str 0 rfl
  refine WL.assign (v := .int .i64 x54) rfl ?_
  refine WL.assign (v := bstr x64) rfl ?_
  refine WL.nil ?_
  refine hK63 _ _ ?_
  obtain ⟨x67, ex67, hf⟩ := letE hf
  obtain ⟨x70, hxx70, hf⟩ := bindE hf
  obtain ⟨x75, hxx75, hf⟩ := bindE hf
  refine W.any (by kernel_rfl) 12 1 [true, true, true, true, true, true, true, true, true, true, true, true, false] rfl rfl (poAt [pv (.agg ([.slice a56 x55.length c57] : List Value).toArray), pv (.int .i64 x54), pv (.int .i64 x67), pv (bstr x64), pq (fun y : (Option Addr × Nat) => .slice y.1 ([([97, 110, 110] : List UInt8), ([97, 110, 110] : List UInt8), ([98, 111, 98] : List UInt8)]).length y.2) (fun v => [vl (tSlice tStr) ([([97, 110, 110] : List UInt8), ([97, 110, 110] : List UInt8), ([98, 111, 98] : List UInt8)]) v]) (fun v => []), pv (.int .i64 x54), pq (fun y : Addr => .pointer (some y)) (fun v => [pl tStr x70 (adOf v)]) (fun v => []), pv (bstr x70), pv (.agg ([.int .i64 1, bstr x64, bstr ([111, 119, 110, 101, 114] : List UInt8), .int .i64 0, bstr x70] : List Value).toArray), pq (fun y : (Option Addr × Nat) => .slice y.1 ([(⟨1, x64, ([111, 119, 110, 101, 114] : List UInt8), 0, x70⟩ : api_Effect)]).length y.2) (fun v => [vl (tSlice t_api_Effect) ([(⟨1, x64, ([111, 119, 110, 101, 114] : List UInt8), 0, x70⟩ : api_Effect)]) v]) (fun v => []), pn [9] (fun r => .agg ([.int .i64 x67, .int .i64 1, .int .i64 0, r.getD 0 undef] : List Value).toArray), pq (fun y : List Value => .agg y.toArray) (fun v => [vl t_fold_Store x75 v]) (fun v => [])]) (Λ := [blk g3 41 [.slice a56 x55.length c57]]) hs (by kernel_rfl) (by kernel_rfl) (by kernel_rfl) ⟨⟨⟨⟨⟨⟨⟨⟨⟨⟨⟨⟨trivial, ?_⟩, ?_⟩, ?_⟩, ?_⟩, ?_⟩, ?_⟩, ?_⟩, ?_⟩, ?_⟩, ?_⟩, ?_⟩, ?_⟩ ?_
  {
  intro ρ w Γx Λx hs hu hp
  refine WL.loadN (vs := [.slice a56 x55.length c57]) hs (Λx.length + 0) (getApp rfl) TI41 ((hu 1 rfl).trans h53_1) rfl rfl ?_
  exact WL.nil ⟨rfl, _, rfl, rfl, hs.cutG 0 0⟩ }
  {
  intro ρ w Γx Λx hs hu hp
  refine WL.move (v := .int .i64 x54) (hu 2 rfl) ?_
  exact WL.nil ⟨rfl, _, rfl, rfl, hs.cutG 0 0⟩ }
  {
  intro ρ w Γx Λx hs hu hp
  have e78 : ρ 16 = .int .i64 x54 := (hp 1 rfl).1
  refine WL.bin (v := .int .i64 x67) rfl e78 (ib_as ex67 (ib_add _ _ _)) ?_
  exact WL.nil ⟨rfl, _, rfl, rfl, hs.cutG 0 0⟩ }
  {
  intro ρ w Γx Λx hs hu hp
  refine WL.move (v := bstr x64) (hu 3 rfl) ?_
  exact WL.nil ⟨rfl, _, rfl, rfl, hs.cutG 0 0⟩ }
  {
  intro ρ w Γx Λx hs hu hp
  refine WL.buildSliceB (ys := [([97, 110, 110] : List UInt8), ([97, 110, 110] : List UInt8), ([98, 111, 98] : List UInt8)]) (n := 3) (vs := [(0, bstr ([97, 110, 110] : List UInt8)), (1, bstr ([97, 110, 110] : List UInt8)), (2, bstr ([98, 111, 98] : List UInt8))]) (cs := [bstr ([97, 110, 110] : List UInt8), bstr ([97, 110, 110] : List UInt8), bstr ([98, 111, 98] : List UInt8)]) hs ⟨⟨rfl, rfl⟩, ⟨⟨rfl, rfl⟩, ⟨⟨rfl, rfl⟩, trivial⟩⟩⟩ (bls PS32 (by decide) rfl) (fun ok hA => (Cells.app (Cells.one (T := tStr) rfl) (Cells.app (Cells.one (T := tStr) rfl) (Cells.one (T := tStr) rfl)))) rfl (by decide) (fun a69 w hBl hs => ?_)
  have hs := hs.add (it := vl (tSlice tStr) ([([97, 110, 110] : List UInt8), ([97, 110, 110] : List UInt8), ([98, 111, 98] : List UInt8)]) (.slice a69 ([([97, 110, 110] : List UInt8), ([97, 110, 110] : List UInt8), ([98, 111, 98] : List UInt8)]).length 3)) fun ok hA => hA.get 0 rfl
  exact WL.nil ⟨rfl, _, rfl, ⟨(a69, 3), rfl⟩, hs.cutG 1 1⟩ }
  {
  intro ρ w Γx Λx hs hu hp
  refine WL.move (v := .int .i64 x54) (hu 2 rfl) ?_
  exact WL.nil ⟨rfl, _, rfl, rfl, hs.cutG 0 0⟩ }
  {
  intro ρ w Γx Λx hs hu hp
  obtain ⟨⟨⟨a79, c80⟩, e81r⟩, hm82⟩ := hp 4 rfl
  have e81 : ρ 19 = .slice a79 ([([97, 110, 110] : List UInt8), ([97, 110, 110] : List UInt8), ([98, 111, 98] : List UInt8)]).length c80 := e81r
  rw [e81r] at hm82
  have hs := hs.memo1 (it := vl (tSlice tStr) ([([97, 110, 110] : List UInt8), ([97, 110, 110] : List UInt8), ([98, 111, 98] : List UInt8)]) (.slice a79 ([([97, 110, 110] : List UInt8), ([97, 110, 110] : List UInt8), ([98, 111, 98] : List UInt8)]).length c80)) (List.mem_append.2 (.inl (hm82 _ (List.mem_of_getElem? (i := 0) rfl))))
  have e83 : ρ 20 = .int .i64 x54 := (hp 5 rfl).1
  refine WL.indexAddr hs 0 rfl UN32 TI9 e81 e83 hxx70 (fun ad71 hs => ?_)
  have hs := hs.add (it := pl tStr x70 ad71) fun ok hA => hA.get 0 rfl
  exact WL.nil ⟨rfl, _, rfl, ⟨ad71, rfl⟩, hs.cutG 1 2⟩ }
  {
  intro ρ w Γx Λx hs hu hp
  obtain ⟨⟨ad84, e85r⟩, hm86⟩ := hp 6 rfl
  have e85 : ρ 21 = .pointer (some ad84) := e85r
  rw [e85r] at hm86
  have hs := hs.memo1 (it := pl tStr x70 ad84) (List.mem_append.2 (.inl (hm86 _ (List.mem_of_getElem? (i := 0) rfl))))
  refine WL.loadP hs 0 rfl TI9 (.inr rfl) e85 (fun v72 hs => ?_)
  obtain rfl := hs.str 0 rfl
  exact WL.nil ⟨rfl, _, rfl, rfl, hs.cutG 0 2⟩ }
  {
  intro ρ w Γx Λx hs hu hp
  have e87 : ρ 18 = bstr x64 := (hp 3 rfl).1
  have e88 : ρ 22 = bstr x70 := (hp 7 rfl).1
  refine WL.build (vs := [(0, .int .i64 1), (1, bstr x64), (2, bstr ([111, 119, 110, 101, 114] : List UInt8)), (4, bstr x70)]) (cs := [.int .i64 1, bstr x64, bstr ([111, 119, 110, 101, 114] : List UInt8), .int .i64 0, bstr x70]) ⟨⟨rfl, rfl⟩, ⟨⟨rfl, e87⟩, ⟨⟨rfl, rfl⟩, ⟨⟨rfl, e88⟩, trivial⟩⟩⟩⟩ (bld PL44 rfl) ?_
  exact WL.nil ⟨rfl, _, rfl, rfl, hs.cutG 0 0⟩ }
  {
  intro ρ w Γx Λx hs hu hp
  have e89 : ρ 23 = .agg ([.int .i64 1, bstr x64, bstr ([111, 119, 110, 101, 114] : List UInt8), .int .i64 0, bstr x70] : List Value).toArray := (hp 8 rfl).1
  refine WL.buildSliceB (ys := [(⟨1, x64, ([111, 119, 110, 101, 114] : List UInt8), 0, x70⟩ : api_Effect)]) (n := 1) (vs := [(0, .agg ([.int .i64 1, bstr x64, bstr ([111, 119, 110, 101, 114] : List UInt8), .int .i64 0, bstr x70] : List Value).toArray)]) (cs := [.int .i64 1, bstr x64, bstr ([111, 119, 110, 101, 114] : List UInt8), .int .i64 0, bstr x70]) hs ⟨⟨rfl, e89⟩, trivial⟩ (bls PS45 (by decide) rfl) (fun ok hA => (Cells.one (T := t_api_Effect) (show t_api_Effect.R ok _ (⟨1, x64, ([111, 119, 110, 101, 114] : List UInt8), 0, x70⟩ : api_Effect) _ from ⟨[.int .i64 1], ([bstr x64, bstr ([111, 119, 110, 101, 114] : List UInt8), .int .i64 0, bstr x70]), rfl, rfl, ⟨[bstr x64], ([bstr ([111, 119, 110, 101, 114] : List UInt8), .int .i64 0, bstr x70]), rfl, rfl, ⟨([bstr ([111, 119, 110, 101, 114] : List UInt8)]), [.int .i64 0, bstr x70], rfl, rfl, ⟨[.int .i64 0], [bstr x70], rfl, rfl, rfl⟩⟩⟩⟩))) rfl (by decide) (fun a74 w hBl hs => ?_)
  have hs := hs.add (it := vl (tSlice t_api_Effect) ([(⟨1, x64, ([111, 119, 110, 101, 114] : List UInt8), 0, x70⟩ : api_Effect)]) (.slice a74 ([(⟨1, x64, ([111, 119, 110, 101, 114] : List UInt8), 0, x70⟩ : api_Effect)]).length 1)) fun ok hA => hA.get 0 rfl
  exact WL.nil ⟨rfl, _, rfl, ⟨(a74, 1), rfl⟩, hs.cutG 1 1⟩ }
  {
  intro ρ w Γx Λx hs hu hp
  have e90 : ρ 17 = .int .i64 x67 := (hp 2 rfl).1
  obtain ⟨⟨⟨a91, c92⟩, e93r⟩, hm94⟩ := hp 9 rfl
  have e93 : ρ 24 = .slice a91 ([(⟨1, x64, ([111, 119, 110, 101, 114] : List UInt8), 0, x70⟩ : api_Effect)]).length c92 := e93r
  rw [e93r] at hm94
  have hs := hs.memo1 (it := vl (tSlice t_api_Effect) ([(⟨1, x64, ([111, 119, 110, 101, 114] : List UInt8), 0, x70⟩ : api_Effect)]) (.slice a91 ([(⟨1, x64, ([111, 119, 110, 101, 114] : List UInt8), 0, x70⟩ : api_Effect)]).length c92)) (List.mem_append.2 (.inl (hm94 _ (List.mem_of_getElem? (i := 0) rfl))))
  refine WL.build (vs := [(0, .int .i64 x67), (1, .int .i64 1), (3, .slice a91 ([(⟨1, x64, ([111, 119, 110, 101, 114] : List UInt8), 0, x70⟩ : api_Effect)]).length c92)]) (cs := [.int .i64 x67, .int .i64 1, .int .i64 0, .slice a91 ([(⟨1, x64, ([111, 119, 110, 101, 114] : List UInt8), 0, x70⟩ : api_Effect)]).length c92]) ⟨⟨rfl, e90⟩, ⟨⟨rfl, rfl⟩, ⟨⟨rfl, e93⟩, trivial⟩⟩⟩ (bld PL47 rfl) ?_
  exact WL.nil ⟨rfl, _, rfl, (show (.agg ([.int .i64 x67, .int .i64 1, .int .i64 0, .slice a91 ([(⟨1, x64, ([111, 119, 110, 101, 114] : List UInt8), 0, x70⟩ : api_Effect)]).length c92] : List Value).toArray : Value) = (.agg ([.int .i64 x67, .int .i64 1, .int .i64 0, ρ 24] : List Value).toArray : Value) by rw [e93]), hs.cutG 0 1⟩ }
  {
  intro ρ w Γx Λx hs hu hp
  have e95 : ρ 15 = .agg ([.slice a56 x55.length c57] : List Value).toArray := (hp 0 rfl).1
  obtain ⟨⟨⟨a96, c97⟩, e98r⟩, hm99⟩ := hp 9 rfl
  have e98 : ρ 24 = .slice a96 ([(⟨1, x64, ([111, 119, 110, 101, 114] : List UInt8), 0, x70⟩ : api_Effect)]).length c97 := e98r
  rw [e98r] at hm99
  have hs := hs.memo1 (it := vl (tSlice t_api_Effect) ([(⟨1, x64, ([111, 119, 110, 101, 114] : List UInt8), 0, x70⟩ : api_Effect)]) (.slice a96 ([(⟨1, x64, ([111, 119, 110, 101, 114] : List UInt8), 0, x70⟩ : api_Effect)]).length c97)) (List.mem_append.2 (.inl (hm99 _ (List.mem_of_getElem? (i := 0) rfl))))
  have e100 : ρ 25 = .agg ([.int .i64 x67, .int .i64 1, .int .i64 0, ρ 24] : List Value).toArray := (hp 10 rfl).1
  rw [e98] at e100
  have hs := hs.add (it := vl t_fold_Store (⟨x55⟩ : fold_Store) (.agg [.slice a56 x55.length c57].toArray)) fun ok hA => V_agg ((R_one (hA.get (Γx.length + 3 + 1) (getApp1 rfl)))) rfl
  have hs := hs.add (it := vl t_api_Update (⟨x67, 1, 0, [(⟨1, x64, ([111, 119, 110, 101, 114] : List UInt8), 0, x70⟩ : api_Effect)]⟩ : api_Update) (.agg ([.int .i64 x67, .int .i64 1, .int .i64 0, .slice a96 ([(⟨1, x64, ([111, 119, 110, 101, 114] : List UInt8), 0, x70⟩ : api_Effect)]).length c97]).toArray)) fun ok hA => V_agg (show t_api_Update.R ok _ _ _ from ⟨[.int .i64 x67], ([.int .i64 1, .int .i64 0, .slice a96 ([(⟨1, x64, ([111, 119, 110, 101, 114] : List UInt8), 0, x70⟩ : api_Effect)]).length c97]), rfl, rfl, ⟨[.int .i64 1], ([.int .i64 0, .slice a96 ([(⟨1, x64, ([111, 119, 110, 101, 114] : List UInt8), 0, x70⟩ : api_Effect)]).length c97]), rfl, rfl, ⟨[.int .i64 0], ([.slice a96 ([(⟨1, x64, ([111, 119, 110, 101, 114] : List UInt8), 0, x70⟩ : api_Effect)]).length c97]), rfl, rfl, (R_one (hA.get 1 rfl))⟩⟩⟩) rfl
  refine WL.call (vs := [.agg ([.slice a56 x55.length c57] : List Value).toArray, .agg ([.int .i64 x67, .int .i64 1, .int .i64 0, .slice a96 ([(⟨1, x64, ([111, 119, 110, 101, 114] : List UInt8), 0, x70⟩ : api_Effect)]).length c97] : List Value).toArray]) hs FN16 ⟨e95, ⟨e100, trivial⟩⟩ (fun ok hA => fold_Apply.calls (x1 := (⟨x55⟩ : fold_Store)) (x2 := (⟨x67, 1, 0, [(⟨1, x64, ([111, 119, 110, 101, 114] : List UInt8), 0, x70⟩ : api_Effect)]⟩ : api_Update)) hxx75 (hA.get 1 rfl) (hA.get 0 rfl)) ?_
  rintro cs76 w hs
  have hl77 := hs.agglen (n := 1) 0 rfl rfl rfl
  have hs := hs.add (it := vl t_fold_Store x75 (.agg cs76.toArray)) fun ok hA => hA.get 0 rfl
  exact WL.nil ⟨rfl, _, rfl, ⟨cs76, rfl⟩, hs.cutG 1 4⟩ }
  {
  intro ρ w hs hu101 hp
  obtain ⟨⟨⟨⟨⟨⟨⟨⟨⟨⟨⟨⟨_, hp0_⟩, hp1_⟩, hp2_⟩, hp3_⟩, hp4_⟩, hp5_⟩, hp6_⟩, hp7_⟩, hp8_⟩, hp9_⟩, hp10_⟩, hp11_⟩ := hp
  have hs : St ok (bz w0) w [vl t_fold_Store x75 (ρ 26), vl (tSlice t_api_Effect) ([(⟨1, x64, ([111, 119, 110, 101, 114] : List UInt8), 0, x70⟩ : api_Effect)]) (ρ 24), pl tStr x70 (adOf (ρ 21)), vl (tSlice tStr) ([([97, 110, 110] : List UInt8), ([97, 110, 110] : List UInt8), ([98, 111, 98] : List UInt8)]) (ρ 19), vl tStr x64 (bstr x64), pl tStr x64 ad65, vl (tSlice tStr) ([([98] : List UInt8), ([97] : List UInt8), ([99] : List UInt8)]) (.slice (some ⟨g52, 0, none⟩) ([([98] : List UInt8), ([97] : List UInt8), ([99] : List UInt8)]).length 3), vl (tSlice t_fold_Object) x55 (.slice a56 x55.length c57)] [blk g3 41 [.slice a56 x55.length c57]] := hs
  obtain ⟨cs102, e104⟩ := hp11_
  have e104 : ρ 26 = .agg cs102.toArray := e104
  try rw [e104] at hs
  obtain ⟨⟨a105, c106⟩, e107⟩ := hp9_
  have e107 : ρ 24 = .slice a105 ([(⟨1, x64, ([111, 119, 110, 101, 114] : List UInt8), 0, x70⟩ : api_Effect)]).length c106 := e107
  try rw [e107] at hs
  have e108 : ρ 23 = .agg ([.int .i64 1, bstr x64, bstr ([111, 119, 110, 101, 114] : List UInt8), .int .i64 0, bstr x70] : List Value).toArray := hp8_
  have e109 : ρ 22 = bstr x70 := hp7_
  obtain ⟨ad110, e111⟩ := hp6_
  have e111 : ρ 21 = .pointer (some ad110) := e111
  try rw [e111] at hs
  have e112 : ρ 20 = .int .i64 x54 := hp5_
  obtain ⟨⟨a113, c114⟩, e115⟩ := hp4_
  have e115 : ρ 19 = .slice a113 ([([97, 110, 110] : List UInt8), ([97, 110, 110] : List UInt8), ([98, 111, 98] : List UInt8)]).length c114 := e115
  try rw [e115] at hs
  have e116 : ρ 18 = bstr x64 := hp3_
  have e117 : ρ 17 = .int .i64 x67 := hp2_
  have e118 : ρ 16 = .int .i64 x54 := hp1_
  have e119 : ρ 15 = .agg ([.slice a56 x55.length c57] : List Value).toArray := hp0_
  have e120 : ρ 25 = .agg ([.int .i64 x67, .int .i64 1, .int .i64 0, ρ 24] : List Value).toArray := hp10_
  rw [e107] at e120
  have hl103 := hs.agglen (n := 1) 0 rfl rfl rfl
  refine WA.step [12] (by kernel_rfl) (by simp) ⟨?_, trivial⟩
  refine WL.storeAll (vs := cs102) hs 0 rfl TI41 ((hu101 1 rfl).trans h53_1) e104 rfl hl103 (hs.ones 0 rfl rfl) rfl (fun w hs => ?_)
  refine WL.nil ⟨rfl, _, rfl, ?_⟩
  refine WA.done (by kernel_rfl) ?_
  refine hK62 _ _ ?_
  refine W.region ?_
  obtain ⟨x121, ex121, hf⟩ := letE hf
  refine WL.bin (v := .int .i64 x121) ((hu101 10 rfl).trans h53_10) rfl (ib_as ex121 (ib_add _ _ _)) ?_
  refine WL.move (v := .int .i64 x121) rfl ?_
  refine WL.nil ?_
  obtain ⟨a124, c125, rfl⟩ := open_fold_Store hs 0 rfl
  have hs := hs.add (it := vl (tSlice t_fold_Object) x75.Objects (.slice a124 (x75.Objects).length c125)) fun ok hA => V_fld F_fold_Store_Objects (hA.get 0 rfl) rfl rfl rfl
  exact ⟨_, (Option.some.inj hf).symm, a124, c125, ((hu101 1 rfl).trans h53_1), ((hu101 8 rfl).trans h53_8), ((hu101 9 rfl).trans h53_9), rfl, (hs.mask [true]).pick [7, 0]⟩ } }
  {
  refine W.cond_false (bool_tr rfl hc61) ?_
  refine W.exit ?_
  have hr := Option.some.inj hf; subst hr
  have hr := hbbs58 _ rfl; subst hr
  have hf := hfs58
  exact Jk9 x55 a56 c57 _ _ h53_1 ((hs.mask [true]).pick [1]) hf }
end Go.Proofs.Ytpfgdjfiimknlaa
