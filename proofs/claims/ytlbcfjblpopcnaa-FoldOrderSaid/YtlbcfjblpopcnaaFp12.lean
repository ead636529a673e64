import Derived.Test.YtlbcfjblpopcnaaFh
import Derived.Test.YtlbcfjblpopcnaaLz
import Derived.Test.YtlbcfjblpopcnaaFp1
import Derived.Test.YtlbcfjblpopcnaaFp2
import Derived.Test.YtlbcfjblpopcnaaFp5
import Derived.Test.YtlbcfjblpopcnaaFp10
import Derived.Test.YtlbcfjblpopcnaaFp11
set_option linter.unusedVariables false
set_option linter.unusedSimpArgs false
namespace Go.Proofs.Ytlbcfjblpopcnaa
open Go Go.RowKit Go.Proofs.YtlbcfjblpopcnaaL
set_option maxRecDepth 100000
set_option maxHeartbeats 4000000
/-! elasticstore/elasticstorelaw30.FoldFind: function 8 -/
theorem eslaw30_FoldFind.calls {ok : Nat → Prop} {w0 : World} {x1 : List Int} {x4 : List UInt8} {x5 : List UInt8} {a2 : Option Addr} {c3 : Nat} {r : Bool} (hf : eslaw30_FoldFind x1 x4 x5 = some r) (i0 : (vl (tSlice (tInt .i64)) x1 (.slice a2 x1.length c3)).holds ok w0) :
    Calls Try.prog 8 #[.slice a2 x1.length c3, bstr x4, bstr x5] w0 fun e w' => ∃ v, e = .returned v ∧ ∃ y : Unit, v = .bool r ∧ St ok (bz w0) w' [] [] := by
  unfold eslaw30_FoldFind at hf
  refine calls_of_W (fn := Try.f8) (N := 73) Try.func8 rfl Try.ntmps8 rfl ?_
  have hs : St ok (bz w0) w0 [vl (tSlice (tInt .i64)) x1 (.slice a2 x1.length c3)] [] := St.init (All.cons i0 All.nil)
  clear i0
  refine W.seqK fun K6 hK6 => ?_
  refine W.region ?_
  refine WL.assign (v := .bool false) rfl ?_
  refine WL.nil ?_
  refine hK6 _ _ ?_
  refine W.seqK fun K7 hK7 => ?_
  refine W.seqK fun K8 hK8 => ?_
  have Jk11 : ∀ (x10 : Bool) (ρ : Env) (w : World), ρ 0 = .slice a2 x1.length c3 → ρ 1 = bstr x4 → ρ 2 = bstr x5 → ρ 21 = .bool x10 → St ok (bz w0) w [vl (tSlice (tInt .i64)) x1 (.slice a2 x1.length c3)] [] → eslaw30_FoldFind.j5 x1 x4 x5 x10 = some r → K8 ρ w := by
    intro x10 ρ w h9_0 h9_1 h9_2 h9_21 hs hf
    refine hK8 _ _ ?_
    unfold eslaw30_FoldFind.j5 at hf
    rcases iteE hf with ⟨hc12, hf⟩ | ⟨hc12, hf⟩
    · refine W.cond_true (bool_tr h9_21 hc12) ?_
      refine W.seqK fun K13 hK13 => ?_
      refine W.region ?_
      obtain ⟨x14, hxx14, hf⟩ := bindE hf
      refine WL.call (vs := []) hs FN12 trivial (fun ok hA => eslaw30_awake.calls hxx14) ?_
      rintro _ w hs
      refine WL.assign (v := .bool x14) rfl ?_
      refine WL.nil ?_
      refine hK13 _ _ ?_
      refine W.ret ?_
      have hr := Option.some.inj hf; subst hr
      exact ⟨_, resOk_one rfl rfl, (), rfl, (hs.mask []).pick []⟩
    · refine W.cond_false (bool_tr h9_21 hc12) ?_
      refine W.skip ?_
      refine hK7 _ _ ?_
      refine W.seqK fun K15 hK15 => ?_
      refine W.region ?_
      refine WL.move (v := .slice a2 x1.length c3) h9_0 ?_
      obtain ⟨x16, hxx16, hf⟩ := bindE hf
      refine WL.call (vs := [.slice a2 x1.length c3]) hs FN19 ⟨rfl, trivial⟩ (fun ok hA => eslaw00_Updates.calls (x1 := x1) hxx16 (hA.get 0 rfl)) ?_
      rintro ⟨a17, n18, c19⟩ w hs
      obtain rfl := hs.ownLen 0 rfl
      have hs := hs.freezeOwn 0 rfl
      obtain ⟨x20, hxx20, hf⟩ := bindE hf
      refine WL.call (vs := [.slice a17 x16.length c19]) hs FN13 ⟨rfl, trivial⟩ (fun ok hA => fold_Fold.calls (x1 := x16) hxx20 (hA.get 0 rfl)) ?_
      rintro cs21 w hs
      have hl22 := hs.agglen (n := 1) 0 rfl rfl rfl
      refine WL.alloc hs ZV29 (fun g23 w hs => ?_)
      refine WL.storeAll (vs := cs21) hs 0 rfl TI29 rfl rfl rfl hl22 (hs.ones 0 rfl rfl) rfl (fun w hs => ?_)
      refine WL.nil ?_
      refine hK15 _ _ ?_
      refine W.seqK fun K24 hK24 => ?_
      have Jk26 : ∀  (ρ : Env) (w : World), St ok (bz w0) w [] [] → eslaw30_FoldFind.j1 = some r → K24 ρ w := by
        intro  ρ w  hs hf
        refine hK24 _ _ ?_
        unfold eslaw30_FoldFind.j1 at hf
        refine W.seqK fun K27 hK27 => ?_
        refine W.region ?_
        obtain ⟨x28, hxx28, hf⟩ := bindE hf
        refine WL.call (vs := []) hs FN12 trivial (fun ok hA => eslaw30_awake.calls hxx28) ?_
        rintro _ w hs
        refine WL.assign (v := .bool x28) rfl ?_
        refine WL.nil ?_
        refine hK27 _ _ ?_
        refine W.ret ?_
        have hr := Option.some.inj hf; subst hr
        exact ⟨_, resOk_one rfl rfl, (), rfl, (hs.mask []).pick []⟩
      refine W.seqK fun K29 hK29 => ?_
      refine W.region ?_
      refine WL.move (v := bstr x4) h9_1 ?_
      refine WL.buildSlice (n := 4) (vs := [(0, bstr x4), (1, bstr ([97] : List UInt8)), (2, bstr ([98] : List UInt8)), (3, bstr ([120, 49] : List UInt8))]) (cs := [bstr x4, bstr ([97] : List UInt8), bstr ([98] : List UInt8), bstr ([120, 49] : List UInt8)]) hs ⟨⟨rfl, rfl⟩, ⟨⟨rfl, rfl⟩, ⟨⟨rfl, rfl⟩, ⟨⟨rfl, rfl⟩, trivial⟩⟩⟩⟩ (bls PS55 (by decide) rfl) (fun g30 w hs => ?_)
      refine WL.len (v := .slice (some ⟨g30, 0, none⟩) ([x4, ([97] : List UInt8), ([98] : List UInt8), ([120, 49] : List UInt8)]).length 4) rfl (len_slice UN55) ?_
      refine WL.move (v := .int .i64 0) rfl ?_
      refine WL.nil ?_
      refine hK29 _ _ ?_
      refine W.block ?_
      have hs := hs.ownLit (A := tStr) (xs := [x4, ([97] : List UInt8), ([98] : List UInt8), ([120, 49] : List UInt8)]) 0 rfl (fun ok hA => (Cells.app (Cells.one (T := tStr) rfl) (Cells.app (Cells.one (T := tStr) rfl) (Cells.app (Cells.one (T := tStr) rfl) (Cells.one (T := tStr) rfl))))) (Nat.le_of_ble_eq_true rfl)
      have hs := hs.freezeOwn 0 rfl
      obtain ⟨bs33, hbs33, hfs33⟩ := bindE hf
      refine W.loop hbs33 (fun s ρ w => match s with | x32 => ρ 2 = bstr x5 ∧ ρ 7 = .pointer (some ⟨g23, 0, none⟩) ∧ ρ 27 = .slice (some ⟨g30, 0, none⟩) ([x4, ([97] : List UInt8), ([98] : List UInt8), ([120, 49] : List UInt8)]).length 4 ∧ ρ 28 = .int .i64 (([x4, ([97] : List UInt8), ([98] : List UInt8), ([120, 49] : List UInt8)]).length : Int) ∧ ρ 29 = .int .i64 x32 ∧ St ok (bz w0) w [vl (tSlice tStr) ([x4, ([97] : List UInt8), ([98] : List UInt8), ([120, 49] : List UInt8)]) (.slice (some ⟨g30, 0, none⟩) ([x4, ([97] : List UInt8), ([98] : List UInt8), ([120, 49] : List UInt8)]).length 4), vl t_fold_Store x20 (.agg cs21.toArray)] [blk g23 29 cs21]) ⟨h9_2, rfl, rfl, rfl, rfl, (hs.mask [true]).pick [0, 1]⟩ ?_
      intro x32 ρ w os33 hI hf hbbs33
      obtain ⟨h31_2, h31_7, h31_27, h31_28, h31_29, hs⟩ := hI
      unfold eslaw30_FoldFind.l2 at hf
      refine W.seqK fun K34 hK34 => ?_
      refine W.region ?_
      refine WL.bin (v := .bool (decide (x32 < (([x4, ([97] : List UInt8), ([98] : List UInt8), ([120, 49] : List UInt8)]).length : Int)))) h31_29 h31_28 (ib_lss _ _ _) ?_
      refine WL.nil ?_
      refine hK34 _ _ ?_
      refine W.seqK fun K35 hK35 => ?_
      rcases iteE hf with ⟨hc36, hf⟩ | ⟨hc36, hf⟩
      · refine W.cond_true (bool_tr rfl hc36) ?_
        refine W.skip ?_
        refine hK35 _ _ ?_
        refine W.seqK fun K37 hK37 => ?_
        have Jk39 : ∀  (ρ : Env) (w : World), ρ 2 = bstr x5 → ρ 7 = .pointer (some ⟨g23, 0, none⟩) → ρ 27 = .slice (some ⟨g30, 0, none⟩) ([x4, ([97] : List UInt8), ([98] : List UInt8), ([120, 49] : List UInt8)]).length 4 → ρ 28 = .int .i64 (([x4, ([97] : List UInt8), ([98] : List UInt8), ([120, 49] : List UInt8)]).length : Int) → ρ 29 = .int .i64 x32 → St ok (bz w0) w [vl (tSlice tStr) ([x4, ([97] : List UInt8), ([98] : List UInt8), ([120, 49] : List UInt8)]) (.slice (some ⟨g30, 0, none⟩) ([x4, ([97] : List UInt8), ([98] : List UInt8), ([120, 49] : List UInt8)]).length 4), vl t_fold_Store x20 (.agg cs21.toArray)] [blk g23 29 cs21] → eslaw30_FoldFind.j2 x32 = some os33 → K37 ρ w := by
          intro  ρ w h38_2 h38_7 h38_27 h38_28 h38_29 hs hf
          refine hK37 _ _ ?_
          unfold eslaw30_FoldFind.j2 at hf
          refine W.region ?_
          obtain ⟨x40, ex40, hf⟩ := letE hf
          refine WL.bin (v := .int .i64 x40) h38_29 rfl (ib_as ex40 (ib_add _ _ _)) ?_
          refine WL.move (v := .int .i64 x40) rfl ?_
          refine WL.nil ?_
          exact ⟨_, (Option.some.inj hf).symm, h38_2, h38_7, h38_27, h38_28, rfl, (hs.mask [true]).pick [0, 1]⟩
        refine W.block ?_
        refine W.seqK fun K41 hK41 => ?_
        refine W.region ?_
        obtain ⟨x42, hxx42, hf⟩ := bindE hf
        refine WL.indexAddr hs 0 rfl UN55 TI9 h31_27 h31_29 hxx42 (fun ad43 hs => ?_)
        refine WL.loadP hs 0 rfl TI9 (.inr rfl) rfl (fun v44 hs => ?_)
        obtain rfl := hs.str 0 rfl
        refine WL.assign (v := bstr x42) rfl ?_
        refine WL.nil ?_
        refine hK41 _ _ ?_
        refine W.seqK fun K45 hK45 => ?_
        refine W.region ?_
        refine WL.loadAll hs 0 rfl TI29 h31_7 hl22 ?_
        refine WL.move (v := bstr x42) rfl ?_
        obtain ⟨x46, hxx46, hf⟩ := bindE hf
        refine WL.call (vs := [.agg cs21.toArray, bstr x42]) hs FN27 ⟨rfl, ⟨rfl, trivial⟩⟩ (fun ok hA => fold_Find.calls (x1 := x20) (x2 := x42) hxx46 (hA.get 3 rfl)) ?_
        rintro cs47 w hs
        have hl48 := hs.agglen (n := 2) 0 rfl rfl rfl
        refine WL.alloc hs ZV51 (fun g49 w hs => ?_)
        refine WL.storeAll (vs := cs47) hs 0 rfl TI51 rfl rfl rfl hl48 (hs.ones 0 rfl rfl) rfl (fun w hs => ?_)
        refine WL.nil ?_
        refine hK45 _ _ ?_
        refine W.seqK fun K50 hK50 => ?_
        refine W.seqK fun K51 hK51 => ?_
        have Jk54 : ∀ (x53 : Bool) (ρ : Env) (w : World), ρ 2 = bstr x5 → ρ 7 = .pointer (some ⟨g23, 0, none⟩) → ρ 10 = .pointer (some ⟨g49, 0, none⟩) → ρ 27 = .slice (some ⟨g30, 0, none⟩) ([x4, ([97] : List UInt8), ([98] : List UInt8), ([120, 49] : List UInt8)]).length 4 → ρ 28 = .int .i64 (([x4, ([97] : List UInt8), ([98] : List UInt8), ([120, 49] : List UInt8)]).length : Int) → ρ 29 = .int .i64 x32 → ρ 47 = .bool x53 → St ok (bz w0) w [vl (tSlice tStr) ([x4, ([97] : List UInt8), ([98] : List UInt8), ([120, 49] : List UInt8)]) (.slice (some ⟨g30, 0, none⟩) ([x4, ([97] : List UInt8), ([98] : List UInt8), ([120, 49] : List UInt8)]).length 4), vl t_fold_Object x46 (.agg cs47.toArray), vl t_fold_Store x20 (.agg cs21.toArray)] [blk g49 51 cs47, blk g23 29 cs21] → eslaw30_FoldFind.j4 x5 x32 x46 x53 = some os33 → K51 ρ w := by
          intro x53 ρ w h52_2 h52_7 h52_10 h52_27 h52_28 h52_29 h52_47 hs hf
          refine hK51 _ _ ?_
          unfold eslaw30_FoldFind.j4 at hf
          rcases iteE hf with ⟨hc55, hf⟩ | ⟨hc55, hf⟩
          · refine W.cond_true (bool_tr h52_47 hc55) ?_
            refine W.seqK fun K56 hK56 => ?_
            refine W.region ?_
            refine WL.assign (v := .bool false) rfl ?_
            refine WL.nil ?_
            refine hK56 _ _ ?_
            refine W.ret ?_
            have hr := Option.some.inj hf; subst hr
            have hr := hbbs33 _ rfl; subst hr
            have hf := hfs33
            have hr := Option.some.inj hf; subst hr
            exact ⟨_, resOk_one rfl rfl, (), rfl, (hs.mask []).pick []⟩
          · refine W.cond_false (bool_tr h52_47 hc55) ?_
            refine W.skip ?_
            refine hK50 _ _ ?_
            refine W.seqK fun K57 hK57 => ?_
            refine W.region ?_
            refine WL.move (v := bstr x5) h52_2 ?_
            refine WL.buildSlice (n := 4) (vs := [(0, bstr x5), (1, bstr ([97] : List UInt8)), (2, bstr ([99] : List UInt8)), (3, bstr ([120, 49] : List UInt8))]) (cs := [bstr x5, bstr ([97] : List UInt8), bstr ([99] : List UInt8), bstr ([120, 49] : List UInt8)]) hs ⟨⟨rfl, rfl⟩, ⟨⟨rfl, rfl⟩, ⟨⟨rfl, rfl⟩, ⟨⟨rfl, rfl⟩, trivial⟩⟩⟩⟩ (bls PS55 (by decide) rfl) (fun g58 w hs => ?_)
            refine WL.len (v := .slice (some ⟨g58, 0, none⟩) ([x5, ([97] : List UInt8), ([99] : List UInt8), ([120, 49] : List UInt8)]).length 4) rfl (len_slice UN55) ?_
            refine WL.move (v := .int .i64 0) rfl ?_
            refine WL.nil ?_
            refine hK57 _ _ ?_
            refine W.block ?_
            have hs := hs.ownLit (A := tStr) (xs := [x5, ([97] : List UInt8), ([99] : List UInt8), ([120, 49] : List UInt8)]) 0 rfl (fun ok hA => (Cells.app (Cells.one (T := tStr) rfl) (Cells.app (Cells.one (T := tStr) rfl) (Cells.app (Cells.one (T := tStr) rfl) (Cells.one (T := tStr) rfl))))) (Nat.le_of_ble_eq_true rfl)
            have hs := hs.freezeOwn 0 rfl
            obtain ⟨bs61, hbs61, hfs61⟩ := bindE hf
            refine W.loop hbs61 (fun s ρ w => match s with | x60 => ρ 2 = bstr x5 ∧ ρ 7 = .pointer (some ⟨g23, 0, none⟩) ∧ ρ 10 = .pointer (some ⟨g49, 0, none⟩) ∧ ρ 27 = .slice (some ⟨g30, 0, none⟩) ([x4, ([97] : List UInt8), ([98] : List UInt8), ([120, 49] : List UInt8)]).length 4 ∧ ρ 28 = .int .i64 (([x4, ([97] : List UInt8), ([98] : List UInt8), ([120, 49] : List UInt8)]).length : Int) ∧ ρ 29 = .int .i64 x32 ∧ ρ 49 = .slice (some ⟨g58, 0, none⟩) ([x5, ([97] : List UInt8), ([99] : List UInt8), ([120, 49] : List UInt8)]).length 4 ∧ ρ 50 = .int .i64 (([x5, ([97] : List UInt8), ([99] : List UInt8), ([120, 49] : List UInt8)]).length : Int) ∧ ρ 51 = .int .i64 x60 ∧ St ok (bz w0) w [vl (tSlice tStr) ([x4, ([97] : List UInt8), ([98] : List UInt8), ([120, 49] : List UInt8)]) (.slice (some ⟨g30, 0, none⟩) ([x4, ([97] : List UInt8), ([98] : List UInt8), ([120, 49] : List UInt8)]).length 4), vl (tSlice tStr) ([x5, ([97] : List UInt8), ([99] : List UInt8), ([120, 49] : List UInt8)]) (.slice (some ⟨g58, 0, none⟩) ([x5, ([97] : List UInt8), ([99] : List UInt8), ([120, 49] : List UInt8)]).length 4), vl t_fold_Object x46 (.agg cs47.toArray), vl t_fold_Store x20 (.agg cs21.toArray)] [blk g49 51 cs47, blk g23 29 cs21]) ⟨h52_2, h52_7, h52_10, h52_27, h52_28, h52_29, rfl, rfl, rfl, (hs.mask [true, true]).pick [1, 0, 2, 3]⟩ ?_
            intro x60 ρ w os61 hI hf hbbs61
            obtain ⟨h59_2, h59_7, h59_10, h59_27, h59_28, h59_29, h59_49, h59_50, h59_51, hs⟩ := hI
            unfold eslaw30_FoldFind.l1 at hf
            refine W.seqK fun K62 hK62 => ?_
            refine W.region ?_
            refine WL.bin (v := .bool (decide (x60 < (([x5, ([97] : List UInt8), ([99] : List UInt8), ([120, 49] : List UInt8)]).length : Int)))) h59_51 h59_50 (ib_lss _ _ _) ?_
            refine WL.nil ?_
            refine hK62 _ _ ?_
            refine W.seqK fun K63 hK63 => ?_
            rcases iteE hf with ⟨hc64, hf⟩ | ⟨hc64, hf⟩
            · refine W.cond_true (bool_tr rfl hc64) ?_
              refine W.skip ?_
              refine hK63 _ _ ?_
              refine W.seqK fun K65 hK65 => ?_
              refine W.block ?_
              refine W.seqK fun K66 hK66 => ?_
              refine W.region ?_
              obtain ⟨x67, hxx67, hf⟩ := bindE hf
              refine WL.indexAddr hs 1 rfl UN55 TI9 h59_49 h59_51 hxx67 (fun ad68 hs => ?_)
              refine WL.loadP hs 0 rfl TI9 (.inr rfl) rfl (fun v69 hs => ?_)
              obtain rfl := hs.str 0 rfl
              refine WL.assign (v := bstr x67) rfl ?_
              refine WL.nil ?_
              refine hK66 _ _ ?_
              refine W.seqK fun K70 hK70 => ?_
              refine W.region ?_
              refine WL.loadAll hs 0 rfl TI51 h59_10 hl48 ?_
              refine WL.move (v := bstr x67) rfl ?_
              obtain ⟨x71, hxx71, hf⟩ := bindE hf
              refine WL.call (vs := [.agg cs47.toArray, bstr x67]) hs FN28 ⟨rfl, ⟨rfl, trivial⟩⟩ (fun ok hA => fold_FieldOf.calls (x1 := x46) (x5 := x67) hxx71 (hA.get 4 rfl)) ?_
              rintro ⟨a72, n73, c74⟩ w hs
              refine WL.alloc hs ZV57 (fun g75 w hs => ?_)
              refine WL.storeAll (vs := [bstr x71.Name, .bool x71.Register.Set, .int .i64 x71.Register.Tag, .int .i64 x71.Register.Client, .int .i64 x71.Register.Seq, .int .i64 x71.Register.N, bstr x71.Register.S, .bool x71.HasMax, .int .i64 x71.Max, .int .i64 x71.Sum, .slice a72 n73 c74, .bool x71.Flag]) hs 0 rfl TI57 rfl rfl rfl rfl (ones_of rfl) rfl (fun w hs => ?_)
              refine WL.nil ?_
              refine hK70 _ _ ?_
              refine W.seqK fun K76 hK76 => ?_
              have Jk79 : ∀ (x78 : Bool) (ρ : Env) (w : World), ρ 2 = bstr x5 → ρ 7 = .pointer (some ⟨g23, 0, none⟩) → ρ 10 = .pointer (some ⟨g49, 0, none⟩) → ρ 27 = .slice (some ⟨g30, 0, none⟩) ([x4, ([97] : List UInt8), ([98] : List UInt8), ([120, 49] : List UInt8)]).length 4 → ρ 28 = .int .i64 (([x4, ([97] : List UInt8), ([98] : List UInt8), ([120, 49] : List UInt8)]).length : Int) → ρ 29 = .int .i64 x32 → ρ 49 = .slice (some ⟨g58, 0, none⟩) ([x5, ([97] : List UInt8), ([99] : List UInt8), ([120, 49] : List UInt8)]).length 4 → ρ 50 = .int .i64 (([x5, ([97] : List UInt8), ([99] : List UInt8), ([120, 49] : List UInt8)]).length : Int) → ρ 51 = .int .i64 x60 → ρ 69 = .bool x78 → St ok (bz w0) w [vl (tSlice tStr) ([x4, ([97] : List UInt8), ([98] : List UInt8), ([120, 49] : List UInt8)]) (.slice (some ⟨g30, 0, none⟩) ([x4, ([97] : List UInt8), ([98] : List UInt8), ([120, 49] : List UInt8)]).length 4), vl (tSlice tStr) ([x5, ([97] : List UInt8), ([99] : List UInt8), ([120, 49] : List UInt8)]) (.slice (some ⟨g58, 0, none⟩) ([x5, ([97] : List UInt8), ([99] : List UInt8), ([120, 49] : List UInt8)]).length 4), vl t_fold_Object x46 (.agg cs47.toArray), vl t_fold_Store x20 (.agg cs21.toArray)] [blk g49 51 cs47, blk g23 29 cs21] → eslaw30_FoldFind.j3 x60 x78 = some os61 → K76 ρ w := by
                intro x78 ρ w h77_2 h77_7 h77_10 h77_27 h77_28 h77_29 h77_49 h77_50 h77_51 h77_69 hs hf
                refine hK76 _ _ ?_
                unfold eslaw30_FoldFind.j3 at hf
                rcases iteE hf with ⟨hc80, hf⟩ | ⟨hc80, hf⟩
                · refine W.cond_true (bool_tr h77_69 hc80) ?_
                  refine W.seqK fun K81 hK81 => ?_
                  refine W.region ?_
                  refine WL.assign (v := .bool false) rfl ?_
                  refine WL.nil ?_
                  refine hK81 _ _ ?_
                  refine W.ret ?_
                  have hr := Option.some.inj hf; subst hr
                  have hr := hbbs61 _ rfl; subst hr
                  have hf := hfs61
                  have hr := Option.some.inj hf; subst hr
                  have hr := hbbs33 _ rfl; subst hr
                  have hf := hfs33
                  have hr := Option.some.inj hf; subst hr
                  exact ⟨_, resOk_one rfl rfl, (), rfl, (hs.mask []).pick []⟩
                · refine W.cond_false (bool_tr h77_69 hc80) ?_
                  refine W.skip ?_
                  refine hK65 _ _ ?_
                  refine W.region ?_
                  obtain ⟨x82, ex82, hf⟩ := letE hf
                  refine WL.bin (v := .int .i64 x82) h77_51 rfl (ib_as ex82 (ib_add _ _ _)) ?_
                  refine WL.move (v := .int .i64 x82) rfl ?_
                  refine WL.nil ?_
                  exact ⟨_, (Option.some.inj hf).symm, h77_2, h77_7, h77_10, h77_27, h77_28, h77_29, h77_49, h77_50, rfl, (hs.mask [true, true]).pick [0, 1, 2, 3]⟩
              obtain rfl := hs.ownLen 1 rfl
              have hs := hs.freezeOwn 1 rfl
              obtain ⟨x86, hxx86, hf⟩ := bindE hf
              obtain ⟨x89, hxx89, hf⟩ := bindE hf
              rcases iteE hf with ⟨hc90, hf⟩ | ⟨hc90, hf⟩
              · refine W.any (by kernel_rfl) 12 0 [true, true, true, true, true, true, true, true, true, true, true, true] rfl rfl (poAt [pv (.agg ([bstr x71.Name, .bool x71.Register.Set, .int .i64 x71.Register.Tag, .int .i64 x71.Register.Client, .int .i64 x71.Register.Seq, .int .i64 x71.Register.N, bstr x71.Register.S, .bool x71.HasMax, .int .i64 x71.Max, .int .i64 x71.Sum, .slice a72 (x71.Elems).length c74, .bool x71.Flag] : List Value).toArray), pv (.agg cs47.toArray), pv (bstr x67), pq (fun y : List Value => .agg y.toArray) (fun v => [vl t_fold_Field x86 v]) (fun v => []), pv (.bool x89), pv (.bool (!x89)), pv (.bool (!x89)), pv (undef), pv (undef), pv (undef), pv (undef), pv (.bool true)]) (Λ := [blk g75 57 [bstr x71.Name, .bool x71.Register.Set, .int .i64 x71.Register.Tag, .int .i64 x71.Register.Client, .int .i64 x71.Register.Seq, .int .i64 x71.Register.N, bstr x71.Register.S, .bool x71.HasMax, .int .i64 x71.Max, .int .i64 x71.Sum, .slice a72 (x71.Elems).length c74, .bool x71.Flag], blk g49 51 cs47, blk g23 29 cs21]) hs (by kernel_rfl) (by kernel_rfl) (by kernel_rfl) ⟨⟨⟨⟨⟨⟨⟨⟨⟨⟨⟨⟨trivial, ?_⟩, ?_⟩, ?_⟩, ?_⟩, ?_⟩, ?_⟩, ?_⟩, ?_⟩, ?_⟩, ?_⟩, ?_⟩, ?_⟩ ?_
                · intro ρ w Γx Λx hs hu hp
                  refine WL.loadN (vs := [bstr x71.Name, .bool x71.Register.Set, .int .i64 x71.Register.Tag, .int .i64 x71.Register.Client, .int .i64 x71.Register.Seq, .int .i64 x71.Register.N, bstr x71.Register.S, .bool x71.HasMax, .int .i64 x71.Max, .int .i64 x71.Sum, .slice a72 (x71.Elems).length c74, .bool x71.Flag]) hs (Λx.length + 0) (getApp rfl) TI57 (hu 13 rfl) rfl rfl ?_
                  exact WL.nil ⟨rfl, _, rfl, rfl, hs.cutG 0 0⟩
                · intro ρ w Γx Λx hs hu hp
                  refine WL.loadAll hs (Λx.length + 1) (getApp rfl) TI51 ((hu 10 rfl).trans h59_10) hl48 ?_
                  exact WL.nil ⟨rfl, _, rfl, rfl, hs.cutG 0 0⟩
                · intro ρ w Γx Λx hs hu hp
                  refine WL.move (v := bstr x67) (hu 12 rfl) ?_
                  exact WL.nil ⟨rfl, _, rfl, rfl, hs.cutG 0 0⟩
                · intro ρ w Γx Λx hs hu hp
                  have e91 : ρ 59 = .agg cs47.toArray := (hp 1 rfl).1
                  have e92 : ρ 60 = bstr x67 := (hp 2 rfl).1
                  refine WL.call (vs := [.agg cs47.toArray, bstr x67]) hs FN34 ⟨e91, ⟨e92, trivial⟩⟩ (fun ok hA => esref32_FieldOf.calls (x1 := x46) (x5 := x67) hxx86 (hA.get (Γx.length + 5) (getApp rfl))) ?_
                  rintro cs87 w hs
                  have hl88 := hs.agglen (n := 12) 0 rfl rfl rfl
                  have hs := hs.add (it := vl t_fold_Field x86 (.agg cs87.toArray)) fun ok hA => hA.get 0 rfl
                  exact WL.nil ⟨rfl, _, rfl, ⟨cs87, rfl⟩, hs.cutG 1 1⟩
                · intro ρ w Γx Λx hs hu hp
                  have e93 : ρ 58 = .agg ([bstr x71.Name, .bool x71.Register.Set, .int .i64 x71.Register.Tag, .int .i64 x71.Register.Client, .int .i64 x71.Register.Seq, .int .i64 x71.Register.N, bstr x71.Register.S, .bool x71.HasMax, .int .i64 x71.Max, .int .i64 x71.Sum, .slice a72 (x71.Elems).length c74, .bool x71.Flag] : List Value).toArray := (hp 0 rfl).1
                  obtain ⟨⟨cs94, e96r⟩, hm97⟩ := hp 3 rfl
                  have e96 : ρ 61 = .agg cs94.toArray := e96r
                  rw [e96r] at hm97
                  have hs := hs.memo1 (it := vl t_fold_Field x86 (.agg cs94.toArray)) (List.mem_append.2 (.inl (hm97 _ (List.mem_of_getElem? (i := 0) rfl))))
                  have hl95 := hs.agglen (n := 12) 0 rfl rfl rfl
                  have hs := hs.add (it := vl t_fold_Field (⟨x71.Name, (⟨x71.Register.Set, x71.Register.Tag, x71.Register.Client, x71.Register.Seq, x71.Register.N, x71.Register.S⟩ : fold_Register), x71.HasMax, x71.Max, x71.Sum, x71.Elems, x71.Flag⟩ : fold_Field) (.agg [bstr x71.Name, .bool x71.Register.Set, .int .i64 x71.Register.Tag, .int .i64 x71.Register.Client, .int .i64 x71.Register.Seq, .int .i64 x71.Register.N, bstr x71.Register.S, .bool x71.HasMax, .int .i64 x71.Max, .int .i64 x71.Sum, .slice a72 (x71.Elems).length c74, .bool x71.Flag].toArray)) fun ok hA => V_agg (show t_fold_Field.R ok _ _ _ from ⟨[bstr x71.Name], [.bool x71.Register.Set, .int .i64 x71.Register.Tag, .int .i64 x71.Register.Client, .int .i64 x71.Register.Seq, .int .i64 x71.Register.N, bstr x71.Register.S, .bool x71.HasMax, .int .i64 x71.Max, .int .i64 x71.Sum, .slice a72 (x71.Elems).length c74, .bool x71.Flag], rfl, rfl, ⟨[.bool x71.Register.Set, .int .i64 x71.Register.Tag, .int .i64 x71.Register.Client, .int .i64 x71.Register.Seq, .int .i64 x71.Register.N, bstr x71.Register.S], [.bool x71.HasMax, .int .i64 x71.Max, .int .i64 x71.Sum, .slice a72 (x71.Elems).length c74, .bool x71.Flag], rfl, ⟨[.bool x71.Register.Set], [.int .i64 x71.Register.Tag, .int .i64 x71.Register.Client, .int .i64 x71.Register.Seq, .int .i64 x71.Register.N, bstr x71.Register.S], rfl, rfl, ⟨[.int .i64 x71.Register.Tag], [.int .i64 x71.Register.Client, .int .i64 x71.Register.Seq, .int .i64 x71.Register.N, bstr x71.Register.S], rfl, rfl, ⟨[.int .i64 x71.Register.Client], [.int .i64 x71.Register.Seq, .int .i64 x71.Register.N, bstr x71.Register.S], rfl, rfl, ⟨[.int .i64 x71.Register.Seq], [.int .i64 x71.Register.N, bstr x71.Register.S], rfl, rfl, ⟨[.int .i64 x71.Register.N], [bstr x71.Register.S], rfl, rfl, rfl⟩⟩⟩⟩⟩, ⟨[.bool x71.HasMax], [.int .i64 x71.Max, .int .i64 x71.Sum, .slice a72 (x71.Elems).length c74, .bool x71.Flag], rfl, rfl, ⟨[.int .i64 x71.Max], [.int .i64 x71.Sum, .slice a72 (x71.Elems).length c74, .bool x71.Flag], rfl, rfl, ⟨[.int .i64 x71.Sum], [.slice a72 (x71.Elems).length c74, .bool x71.Flag], rfl, rfl, ⟨[.slice a72 (x71.Elems).length c74], [.bool x71.Flag], rfl, (R_one (hA.get (Γx.length + 0 + 1) (getApp1 rfl))), rfl⟩⟩⟩⟩⟩⟩) rfl
                  refine WL.call (vs := [.agg ([bstr x71.Name, .bool x71.Register.Set, .int .i64 x71.Register.Tag, .int .i64 x71.Register.Client, .int .i64 x71.Register.Seq, .int .i64 x71.Register.N, bstr x71.Register.S, .bool x71.HasMax, .int .i64 x71.Max, .int .i64 x71.Sum, .slice a72 (x71.Elems).length c74, .bool x71.Flag] : List Value).toArray, .agg cs94.toArray]) hs FN33 ⟨e93, ⟨e96, trivial⟩⟩ (fun ok hA => esref32_EqualField.calls (x1 := (⟨x71.Name, (⟨x71.Register.Set, x71.Register.Tag, x71.Register.Client, x71.Register.Seq, x71.Register.N, x71.Register.S⟩ : fold_Register), x71.HasMax, x71.Max, x71.Sum, x71.Elems, x71.Flag⟩ : fold_Field)) (x5 := x86) hxx89 (hA.get 0 rfl) (hA.get 1 rfl)) ?_
                  rintro _ w hs
                  exact WL.nil ⟨rfl, _, rfl, rfl, hs.cutG 0 2⟩
                · intro ρ w Γx Λx hs hu hp
                  have e98 : ρ 62 = .bool x89 := (hp 4 rfl).1
                  refine WL.not e98 ?_
                  exact WL.nil ⟨rfl, _, rfl, rfl, hs.cutG 0 0⟩
                · intro ρ w Γx Λx hs hu hp
                  have e99 : ρ 63 = .bool (!x89) := (hp 5 rfl).1
                  refine WL.move (v := .bool (!x89)) e99 ?_
                  exact WL.nil ⟨rfl, _, rfl, rfl, hs.cutG 0 0⟩
                · intro ρ w Γx Λx hs hu hp
                  have e100 : ρ 64 = .bool (!x89) := (hp 6 rfl).1
                  refine WL.pass ((wanted_of rfl rfl (bool_tr e100 hc90)).trans rfl) rfl ?_
                  exact WL.nil ⟨rfl, _, rfl, rfl, hs.cutG 0 0⟩
                · intro ρ w Γx Λx hs hu hp
                  have e101 : ρ 65 = undef := (hp 7 rfl).1
                  have e102 : ρ 64 = .bool (!x89) := (hp 6 rfl).1
                  refine WL.pass ((wanted_of rfl rfl (bool_tr e102 hc90)).trans rfl) rfl ?_
                  exact WL.nil ⟨rfl, _, rfl, rfl, hs.cutG 0 0⟩
                · intro ρ w Γx Λx hs hu hp
                  have e103 : ρ 64 = .bool (!x89) := (hp 6 rfl).1
                  refine WL.pass ((wanted_of rfl rfl (bool_tr e103 hc90)).trans rfl) rfl ?_
                  exact WL.nil ⟨rfl, _, rfl, rfl, hs.cutG 0 0⟩
                · intro ρ w Γx Λx hs hu hp
                  have e104 : ρ 66 = undef := (hp 8 rfl).1
                  have e105 : ρ 67 = undef := (hp 9 rfl).1
                  have e106 : ρ 64 = .bool (!x89) := (hp 6 rfl).1
                  refine WL.pass ((wanted_of rfl rfl (bool_tr e106 hc90)).trans rfl) rfl ?_
                  exact WL.nil ⟨rfl, _, rfl, rfl, hs.cutG 0 0⟩
                · intro ρ w Γx Λx hs hu hp
                  have e107 : ρ 64 = .bool (!x89) := (hp 6 rfl).1
                  have e108 : ρ 68 = undef := (hp 10 rfl).1
                  refine WL.pickT (v := .bool true) (bool_tr e107 hc90) rfl ?_
                  exact WL.nil ⟨rfl, _, rfl, rfl, hs.cutG 0 0⟩
                · intro ρ w hs hu109 hp
                  obtain ⟨⟨⟨⟨⟨⟨⟨⟨⟨⟨⟨⟨_, hp0_⟩, hp1_⟩, hp2_⟩, hp3_⟩, hp4_⟩, hp5_⟩, hp6_⟩, hp7_⟩, hp8_⟩, hp9_⟩, hp10_⟩, hp11_⟩ := hp
                  have hs : St ok (bz w0) w [vl t_fold_Field x86 (ρ 61), vl (tSlice tStr) x71.Elems (.slice a72 (x71.Elems).length c74), vl tStr x67 (bstr x67), pl tStr x67 ad68, vl (tSlice tStr) ([x4, ([97] : List UInt8), ([98] : List UInt8), ([120, 49] : List UInt8)]) (.slice (some ⟨g30, 0, none⟩) ([x4, ([97] : List UInt8), ([98] : List UInt8), ([120, 49] : List UInt8)]).length 4), vl (tSlice tStr) ([x5, ([97] : List UInt8), ([99] : List UInt8), ([120, 49] : List UInt8)]) (.slice (some ⟨g58, 0, none⟩) ([x5, ([97] : List UInt8), ([99] : List UInt8), ([120, 49] : List UInt8)]).length 4), vl t_fold_Object x46 (.agg cs47.toArray), vl t_fold_Store x20 (.agg cs21.toArray)] [blk g75 57 [bstr x71.Name, .bool x71.Register.Set, .int .i64 x71.Register.Tag, .int .i64 x71.Register.Client, .int .i64 x71.Register.Seq, .int .i64 x71.Register.N, bstr x71.Register.S, .bool x71.HasMax, .int .i64 x71.Max, .int .i64 x71.Sum, .slice a72 (x71.Elems).length c74, .bool x71.Flag], blk g49 51 cs47, blk g23 29 cs21] := hs
                  have e110 : ρ 69 = .bool true := hp11_
                  have e111 : ρ 68 = undef := hp10_
                  have e112 : ρ 67 = undef := hp9_
                  have e113 : ρ 66 = undef := hp8_
                  have e114 : ρ 65 = undef := hp7_
                  have e115 : ρ 64 = .bool (!x89) := hp6_
                  have e116 : ρ 63 = .bool (!x89) := hp5_
                  have e117 : ρ 62 = .bool x89 := hp4_
                  obtain ⟨cs118, e120⟩ := hp3_
                  have e120 : ρ 61 = .agg cs118.toArray := e120
                  try rw [e120] at hs
                  have e121 : ρ 60 = bstr x67 := hp2_
                  have e122 : ρ 59 = .agg cs47.toArray := hp1_
                  have e123 : ρ 58 = .agg ([bstr x71.Name, .bool x71.Register.Set, .int .i64 x71.Register.Tag, .int .i64 x71.Register.Client, .int .i64 x71.Register.Seq, .int .i64 x71.Register.N, bstr x71.Register.S, .bool x71.HasMax, .int .i64 x71.Max, .int .i64 x71.Sum, .slice a72 (x71.Elems).length c74, .bool x71.Flag] : List Value).toArray := hp0_
                  have hl119 := hs.agglen (n := 12) 0 rfl rfl rfl
                  refine WA.done (by kernel_rfl) ?_
                  exact Jk79 true _ _ ((hu109 2 rfl).trans h59_2) ((hu109 7 rfl).trans h59_7) ((hu109 10 rfl).trans h59_10) ((hu109 27 rfl).trans h59_27) ((hu109 28 rfl).trans h59_28) ((hu109 29 rfl).trans h59_29) ((hu109 49 rfl).trans h59_49) ((hu109 50 rfl).trans h59_50) ((hu109 51 rfl).trans h59_51) e110 ((hs.mask [false, true, true]).pick [4, 5, 6, 7]) hf
              · refine W.any (by kernel_rfl) 12 0 [true, true, true, true, true, true, true, true, true, true, true, true] rfl rfl (poAt [pv (.agg ([bstr x71.Name, .bool x71.Register.Set, .int .i64 x71.Register.Tag, .int .i64 x71.Register.Client, .int .i64 x71.Register.Seq, .int .i64 x71.Register.N, bstr x71.Register.S, .bool x71.HasMax, .int .i64 x71.Max, .int .i64 x71.Sum, .slice a72 (x71.Elems).length c74, .bool x71.Flag] : List Value).toArray), pv (.agg cs47.toArray), pv (bstr x67), pq (fun y : List Value => .agg y.toArray) (fun v => [vl t_fold_Field x86 v]) (fun v => []), pv (.bool x89), pv (.bool (!x89)), pv (.bool (!x89)), pv (.pointer (some ⟨g75, 0, none⟩)), pv (bstr x71.Name), pv (bstr x67), pv (.bool (x71.Name != x67)), pv (.bool (x71.Name != x67))]) (Λ := [blk g75 57 [bstr x71.Name, .bool x71.Register.Set, .int .i64 x71.Register.Tag, .int .i64 x71.Register.Client, .int .i64 x71.Register.Seq, .int .i64 x71.Register.N, bstr x71.Register.S, .bool x71.HasMax, .int .i64 x71.Max, .int .i64 x71.Sum, .slice a72 (x71.Elems).length c74, .bool x71.Flag], blk g49 51 cs47, blk g23 29 cs21]) hs (by kernel_rfl) (by kernel_rfl) (by kernel_rfl) ⟨⟨⟨⟨⟨⟨⟨⟨⟨⟨⟨⟨trivial, ?_⟩, ?_⟩, ?_⟩, ?_⟩, ?_⟩, ?_⟩, ?_⟩, ?_⟩, ?_⟩, ?_⟩, ?_⟩, ?_⟩ ?_
                · intro ρ w Γx Λx hs hu hp
                  refine WL.loadN (vs := [bstr x71.Name, .bool x71.Register.Set, .int .i64 x71.Register.Tag, .int .i64 x71.Register.Client, .int .i64 x71.Register.Seq, .int .i64 x71.Register.N, bstr x71.Register.S, .bool x71.HasMax, .int .i64 x71.Max, .int .i64 x71.Sum, .slice a72 (x71.Elems).length c74, .bool x71.Flag]) hs (Λx.length + 0) (getApp rfl) TI57 (hu 13 rfl) rfl rfl ?_
                  exact WL.nil ⟨rfl, _, rfl, rfl, hs.cutG 0 0⟩
                · intro ρ w Γx Λx hs hu hp
                  refine WL.loadAll hs (Λx.length + 1) (getApp rfl) TI51 ((hu 10 rfl).trans h59_10) hl48 ?_
                  exact WL.nil ⟨rfl, _, rfl, rfl, hs.cutG 0 0⟩
                · intro ρ w Γx Λx hs hu hp
                  refine WL.move (v := bstr x67) (hu 12 rfl) ?_
                  exact WL.nil ⟨rfl, _, rfl, rfl, hs.cutG 0 0⟩
                · intro ρ w Γx Λx hs hu hp
                  have e124 : ρ 59 = .agg cs47.toArray := (hp 1 rfl).1
                  have e125 : ρ 60 = bstr x67 := (hp 2 rfl).1
                  refine WL.call (vs := [.agg cs47.toArray, bstr x67]) hs FN34 ⟨e124, ⟨e125, trivial⟩⟩ (fun ok hA => esref32_FieldOf.calls (x1 := x46) (x5 := x67) hxx86 (hA.get (Γx.length + 5) (getApp rfl))) ?_
                  rintro cs87 w hs
                  have hl88 := hs.agglen (n := 12) 0 rfl rfl rfl
                  have hs := hs.add (it := vl t_fold_Field x86 (.agg cs87.toArray)) fun ok hA => hA.get 0 rfl
                  exact WL.nil ⟨rfl, _, rfl, ⟨cs87, rfl⟩, hs.cutG 1 1⟩
                · intro ρ w Γx Λx hs hu hp
                  have e126 : ρ 58 = .agg ([bstr x71.Name, .bool x71.Register.Set, .int .i64 x71.Register.Tag, .int .i64 x71.Register.Client, .int .i64 x71.Register.Seq, .int .i64 x71.Register.N, bstr x71.Register.S, .bool x71.HasMax, .int .i64 x71.Max, .int .i64 x71.Sum, .slice a72 (x71.Elems).length c74, .bool x71.Flag] : List Value).toArray := (hp 0 rfl).1
                  obtain ⟨⟨cs127, e129r⟩, hm130⟩ := hp 3 rfl
                  have e129 : ρ 61 = .agg cs127.toArray := e129r
                  rw [e129r] at hm130
                  have hs := hs.memo1 (it := vl t_fold_Field x86 (.agg cs127.toArray)) (List.mem_append.2 (.inl (hm130 _ (List.mem_of_getElem? (i := 0) rfl))))
                  have hl128 := hs.agglen (n := 12) 0 rfl rfl rfl
                  have hs := hs.add (it := vl t_fold_Field (⟨x71.Name, (⟨x71.Register.Set, x71.Register.Tag, x71.Register.Client, x71.Register.Seq, x71.Register.N, x71.Register.S⟩ : fold_Register), x71.HasMax, x71.Max, x71.Sum, x71.Elems, x71.Flag⟩ : fold_Field) (.agg [bstr x71.Name, .bool x71.Register.Set, .int .i64 x71.Register.Tag, .int .i64 x71.Register.Client, .int .i64 x71.Register.Seq, .int .i64 x71.Register.N, bstr x71.Register.S, .bool x71.HasMax, .int .i64 x71.Max, .int .i64 x71.Sum, .slice a72 (x71.Elems).length c74, .bool x71.Flag].toArray)) fun ok hA => V_agg (show t_fold_Field.R ok _ _ _ from ⟨[bstr x71.Name], [.bool x71.Register.Set, .int .i64 x71.Register.Tag, .int .i64 x71.Register.Client, .int .i64 x71.Register.Seq, .int .i64 x71.Register.N, bstr x71.Register.S, .bool x71.HasMax, .int .i64 x71.Max, .int .i64 x71.Sum, .slice a72 (x71.Elems).length c74, .bool x71.Flag], rfl, rfl, ⟨[.bool x71.Register.Set, .int .i64 x71.Register.Tag, .int .i64 x71.Register.Client, .int .i64 x71.Register.Seq, .int .i64 x71.Register.N, bstr x71.Register.S], [.bool x71.HasMax, .int .i64 x71.Max, .int .i64 x71.Sum, .slice a72 (x71.Elems).length c74, .bool x71.Flag], rfl, ⟨[.bool x71.Register.Set], [.int .i64 x71.Register.Tag, .int .i64 x71.Register.Client, .int .i64 x71.Register.Seq, .int .i64 x71.Register.N, bstr x71.Register.S], rfl, rfl, ⟨[.int .i64 x71.Register.Tag], [.int .i64 x71.Register.Client, .int .i64 x71.Register.Seq, .int .i64 x71.Register.N, bstr x71.Register.S], rfl, rfl, ⟨[.int .i64 x71.Register.Client], [.int .i64 x71.Register.Seq, .int .i64 x71.Register.N, bstr x71.Register.S], rfl, rfl, ⟨[.int .i64 x71.Register.Seq], [.int .i64 x71.Register.N, bstr x71.Register.S], rfl, rfl, ⟨[.int .i64 x71.Register.N], [bstr x71.Register.S], rfl, rfl, rfl⟩⟩⟩⟩⟩, ⟨[.bool x71.HasMax], [.int .i64 x71.Max, .int .i64 x71.Sum, .slice a72 (x71.Elems).length c74, .bool x71.Flag], rfl, rfl, ⟨[.int .i64 x71.Max], [.int .i64 x71.Sum, .slice a72 (x71.Elems).length c74, .bool x71.Flag], rfl, rfl, ⟨[.int .i64 x71.Sum], [.slice a72 (x71.Elems).length c74, .bool x71.Flag], rfl, rfl, ⟨[.slice a72 (x71.Elems).length c74], [.bool x71.Flag], rfl, (R_one (hA.get (Γx.length + 0 + 1) (getApp1 rfl))), rfl⟩⟩⟩⟩⟩⟩) rfl
                  refine WL.call (vs := [.agg ([bstr x71.Name, .bool x71.Register.Set, .int .i64 x71.Register.Tag, .int .i64 x71.Register.Client, .int .i64 x71.Register.Seq, .int .i64 x71.Register.N, bstr x71.Register.S, .bool x71.HasMax, .int .i64 x71.Max, .int .i64 x71.Sum, .slice a72 (x71.Elems).length c74, .bool x71.Flag] : List Value).toArray, .agg cs127.toArray]) hs FN33 ⟨e126, ⟨e129, trivial⟩⟩ (fun ok hA => esref32_EqualField.calls (x1 := (⟨x71.Name, (⟨x71.Register.Set, x71.Register.Tag, x71.Register.Client, x71.Register.Seq, x71.Register.N, x71.Register.S⟩ : fold_Register), x71.HasMax, x71.Max, x71.Sum, x71.Elems, x71.Flag⟩ : fold_Field)) (x5 := x86) hxx89 (hA.get 0 rfl) (hA.get 1 rfl)) ?_
                  rintro _ w hs
                  exact WL.nil ⟨rfl, _, rfl, rfl, hs.cutG 0 2⟩
                · intro ρ w Γx Λx hs hu hp
                  have e131 : ρ 62 = .bool x89 := (hp 4 rfl).1
                  refine WL.not e131 ?_
                  exact WL.nil ⟨rfl, _, rfl, rfl, hs.cutG 0 0⟩
                · intro ρ w Γx Λx hs hu hp
                  have e132 : ρ 63 = .bool (!x89) := (hp 5 rfl).1
                  refine WL.move (v := .bool (!x89)) e132 ?_
                  exact WL.nil ⟨rfl, _, rfl, rfl, hs.cutG 0 0⟩
                · intro ρ w Γx Λx hs hu hp
                  have e133 : ρ 64 = .bool (!x89) := (hp 6 rfl).1
                  refine WL.fieldAddr (m := 0) (hu 13 rfl) FA57_0 rfl ?_ (hg := (wanted_of rfl rfl (bool_tr e133 hc90)).trans rfl)
                  exact WL.nil ⟨rfl, _, rfl, rfl, hs.cutG 0 0⟩
                · intro ρ w Γx Λx hs hu hp
                  have e134 : ρ 65 = .pointer (some ⟨g75, 0, none⟩) := (hp 7 rfl).1
                  have e135 : ρ 64 = .bool (!x89) := (hp 6 rfl).1
                  refine WL.load1 (v := bstr x71.Name) hs (Λx.length + 0) (getApp rfl) TI9 e134 rfl ?_ (hg := (wanted_of rfl rfl (bool_tr e135 hc90)).trans rfl)
                  exact WL.nil ⟨rfl, _, rfl, rfl, hs.cutG 0 0⟩
                · intro ρ w Γx Λx hs hu hp
                  have e136 : ρ 64 = .bool (!x89) := (hp 6 rfl).1
                  refine WL.move (v := bstr x67) (hu 12 rfl) ?_ (hg := (wanted_of rfl rfl (bool_tr e136 hc90)).trans rfl)
                  exact WL.nil ⟨rfl, _, rfl, rfl, hs.cutG 0 0⟩
                · intro ρ w Γx Λx hs hu hp
                  have e137 : ρ 66 = bstr x71.Name := (hp 8 rfl).1
                  have e138 : ρ 67 = bstr x67 := (hp 9 rfl).1
                  have e139 : ρ 64 = .bool (!x89) := (hp 6 rfl).1
                  refine WL.binS (v := .bool (x71.Name != x67)) e137 e138 (sb_neq _ _) ?_ (hg := (wanted_of rfl rfl (bool_tr e139 hc90)).trans rfl)
                  exact WL.nil ⟨rfl, _, rfl, rfl, hs.cutG 0 0⟩
                · intro ρ w Γx Λx hs hu hp
                  have e140 : ρ 64 = .bool (!x89) := (hp 6 rfl).1
                  have e141 : ρ 68 = .bool (x71.Name != x67) := (hp 10 rfl).1
                  refine WL.pickF (v := .bool (x71.Name != x67)) (bool_tr e140 hc90) e141 ?_
                  exact WL.nil ⟨rfl, _, rfl, rfl, hs.cutG 0 0⟩
                · intro ρ w hs hu142 hp
                  obtain ⟨⟨⟨⟨⟨⟨⟨⟨⟨⟨⟨⟨_, hp0_⟩, hp1_⟩, hp2_⟩, hp3_⟩, hp4_⟩, hp5_⟩, hp6_⟩, hp7_⟩, hp8_⟩, hp9_⟩, hp10_⟩, hp11_⟩ := hp
                  have hs : St ok (bz w0) w [vl t_fold_Field x86 (ρ 61), vl (tSlice tStr) x71.Elems (.slice a72 (x71.Elems).length c74), vl tStr x67 (bstr x67), pl tStr x67 ad68, vl (tSlice tStr) ([x4, ([97] : List UInt8), ([98] : List UInt8), ([120, 49] : List UInt8)]) (.slice (some ⟨g30, 0, none⟩) ([x4, ([97] : List UInt8), ([98] : List UInt8), ([120, 49] : List UInt8)]).length 4), vl (tSlice tStr) ([x5, ([97] : List UInt8), ([99] : List UInt8), ([120, 49] : List UInt8)]) (.slice (some ⟨g58, 0, none⟩) ([x5, ([97] : List UInt8), ([99] : List UInt8), ([120, 49] : List UInt8)]).length 4), vl t_fold_Object x46 (.agg cs47.toArray), vl t_fold_Store x20 (.agg cs21.toArray)] [blk g75 57 [bstr x71.Name, .bool x71.Register.Set, .int .i64 x71.Register.Tag, .int .i64 x71.Register.Client, .int .i64 x71.Register.Seq, .int .i64 x71.Register.N, bstr x71.Register.S, .bool x71.HasMax, .int .i64 x71.Max, .int .i64 x71.Sum, .slice a72 (x71.Elems).length c74, .bool x71.Flag], blk g49 51 cs47, blk g23 29 cs21] := hs
                  have e143 : ρ 69 = .bool (x71.Name != x67) := hp11_
                  have e144 : ρ 68 = .bool (x71.Name != x67) := hp10_
                  have e145 : ρ 67 = bstr x67 := hp9_
                  have e146 : ρ 66 = bstr x71.Name := hp8_
                  have e147 : ρ 65 = .pointer (some ⟨g75, 0, none⟩) := hp7_
                  have e148 : ρ 64 = .bool (!x89) := hp6_
                  have e149 : ρ 63 = .bool (!x89) := hp5_
                  have e150 : ρ 62 = .bool x89 := hp4_
                  obtain ⟨cs151, e153⟩ := hp3_
                  have e153 : ρ 61 = .agg cs151.toArray := e153
                  try rw [e153] at hs
                  have e154 : ρ 60 = bstr x67 := hp2_
                  have e155 : ρ 59 = .agg cs47.toArray := hp1_
                  have e156 : ρ 58 = .agg ([bstr x71.Name, .bool x71.Register.Set, .int .i64 x71.Register.Tag, .int .i64 x71.Register.Client, .int .i64 x71.Register.Seq, .int .i64 x71.Register.N, bstr x71.Register.S, .bool x71.HasMax, .int .i64 x71.Max, .int .i64 x71.Sum, .slice a72 (x71.Elems).length c74, .bool x71.Flag] : List Value).toArray := hp0_
                  have hl152 := hs.agglen (n := 12) 0 rfl rfl rfl
                  refine WA.done (by kernel_rfl) ?_
                  exact Jk79 (x71.Name != x67) _ _ ((hu142 2 rfl).trans h59_2) ((hu142 7 rfl).trans h59_7) ((hu142 10 rfl).trans h59_10) ((hu142 27 rfl).trans h59_27) ((hu142 28 rfl).trans h59_28) ((hu142 29 rfl).trans h59_29) ((hu142 49 rfl).trans h59_49) ((hu142 50 rfl).trans h59_50) ((hu142 51 rfl).trans h59_51) e143 ((hs.mask [false, true, true]).pick [4, 5, 6, 7]) hf
            · refine W.cond_false (bool_tr rfl hc64) ?_
              refine W.exit ?_
              have hr := Option.some.inj hf; subst hr
              have hr := hbbs61 _ rfl; subst hr
              have hf := hfs61
              exact Jk39  _ _ h59_2 h59_7 h59_27 h59_28 h59_29 ((hs.mask [false, true]).pick [0, 3]) hf
        obtain ⟨x158, hxx158, hf⟩ := bindE hf
        obtain ⟨x161, hxx161, hf⟩ := bindE hf
        rcases iteE hf with ⟨hc162, hf⟩ | ⟨hc162, hf⟩
        · refine W.any (by kernel_rfl) 12 0 [true, true, true, true, true, true, true, true, true, true, true, true] rfl rfl (poAt [pv (.agg cs47.toArray), pv (.agg cs21.toArray), pv (bstr x42), pq (fun y : List Value => .agg y.toArray) (fun v => [vl t_fold_Object x158 v]) (fun v => []), pv (.bool x161), pv (.bool (!x161)), pv (.bool (!x161)), pv (undef), pv (undef), pv (undef), pv (undef), pv (.bool true)]) (Λ := [blk g49 51 cs47, blk g23 29 cs21]) hs (by kernel_rfl) (by kernel_rfl) (by kernel_rfl) ⟨⟨⟨⟨⟨⟨⟨⟨⟨⟨⟨⟨trivial, ?_⟩, ?_⟩, ?_⟩, ?_⟩, ?_⟩, ?_⟩, ?_⟩, ?_⟩, ?_⟩, ?_⟩, ?_⟩, ?_⟩ ?_
          · intro ρ w Γx Λx hs hu hp
            refine WL.loadAll hs (Λx.length + 0) (getApp rfl) TI51 (hu 10 rfl) hl48 ?_
            exact WL.nil ⟨rfl, _, rfl, rfl, hs.cutG 0 0⟩
          · intro ρ w Γx Λx hs hu hp
            refine WL.loadAll hs (Λx.length + 1) (getApp rfl) TI29 ((hu 7 rfl).trans h31_7) hl22 ?_
            exact WL.nil ⟨rfl, _, rfl, rfl, hs.cutG 0 0⟩
          · intro ρ w Γx Λx hs hu hp
            refine WL.move (v := bstr x42) (hu 9 rfl) ?_
            exact WL.nil ⟨rfl, _, rfl, rfl, hs.cutG 0 0⟩
          · intro ρ w Γx Λx hs hu hp
            have e163 : ρ 37 = .agg cs21.toArray := (hp 1 rfl).1
            have e164 : ρ 38 = bstr x42 := (hp 2 rfl).1
            refine WL.call (vs := [.agg cs21.toArray, bstr x42]) hs FN32 ⟨e163, ⟨e164, trivial⟩⟩ (fun ok hA => esref32_Find.calls (x1 := x20) (x5 := x42) hxx158 (hA.get (Γx.length + 4) (getApp rfl))) ?_
            rintro cs159 w hs
            have hl160 := hs.agglen (n := 2) 0 rfl rfl rfl
            have hs := hs.add (it := vl t_fold_Object x158 (.agg cs159.toArray)) fun ok hA => hA.get 0 rfl
            exact WL.nil ⟨rfl, _, rfl, ⟨cs159, rfl⟩, hs.cutG 1 1⟩
          · intro ρ w Γx Λx hs hu hp
            have e165 : ρ 36 = .agg cs47.toArray := (hp 0 rfl).1
            obtain ⟨⟨cs166, e168r⟩, hm169⟩ := hp 3 rfl
            have e168 : ρ 39 = .agg cs166.toArray := e168r
            rw [e168r] at hm169
            have hs := hs.memo1 (it := vl t_fold_Object x158 (.agg cs166.toArray)) (List.mem_append.2 (.inl (hm169 _ (List.mem_of_getElem? (i := 0) rfl))))
            have hl167 := hs.agglen (n := 2) 0 rfl rfl rfl
            refine WL.call (vs := [.agg cs47.toArray, .agg cs166.toArray]) hs FN31 ⟨e165, ⟨e168, trivial⟩⟩ (fun ok hA => esref32_EqualObject.calls (x1 := x46) (x5 := x158) hxx161 (hA.get (Γx.length + 0 + 1) (getApp1 rfl)) (hA.get 0 rfl)) ?_
            rintro _ w hs
            exact WL.nil ⟨rfl, _, rfl, rfl, hs.cutG 0 1⟩
          · intro ρ w Γx Λx hs hu hp
            have e170 : ρ 40 = .bool x161 := (hp 4 rfl).1
            refine WL.not e170 ?_
            exact WL.nil ⟨rfl, _, rfl, rfl, hs.cutG 0 0⟩
          · intro ρ w Γx Λx hs hu hp
            have e171 : ρ 41 = .bool (!x161) := (hp 5 rfl).1
            refine WL.move (v := .bool (!x161)) e171 ?_
            exact WL.nil ⟨rfl, _, rfl, rfl, hs.cutG 0 0⟩
          · intro ρ w Γx Λx hs hu hp
            have e172 : ρ 42 = .bool (!x161) := (hp 6 rfl).1
            refine WL.pass ((wanted_of rfl rfl (bool_tr e172 hc162)).trans rfl) rfl ?_
            exact WL.nil ⟨rfl, _, rfl, rfl, hs.cutG 0 0⟩
          · intro ρ w Γx Λx hs hu hp
            have e173 : ρ 43 = undef := (hp 7 rfl).1
            have e174 : ρ 42 = .bool (!x161) := (hp 6 rfl).1
            refine WL.pass ((wanted_of rfl rfl (bool_tr e174 hc162)).trans rfl) rfl ?_
            exact WL.nil ⟨rfl, _, rfl, rfl, hs.cutG 0 0⟩
          · intro ρ w Γx Λx hs hu hp
            have e175 : ρ 42 = .bool (!x161) := (hp 6 rfl).1
            refine WL.pass ((wanted_of rfl rfl (bool_tr e175 hc162)).trans rfl) rfl ?_
            exact WL.nil ⟨rfl, _, rfl, rfl, hs.cutG 0 0⟩
          · intro ρ w Γx Λx hs hu hp
            have e176 : ρ 44 = undef := (hp 8 rfl).1
            have e177 : ρ 45 = undef := (hp 9 rfl).1
            have e178 : ρ 42 = .bool (!x161) := (hp 6 rfl).1
            refine WL.pass ((wanted_of rfl rfl (bool_tr e178 hc162)).trans rfl) rfl ?_
            exact WL.nil ⟨rfl, _, rfl, rfl, hs.cutG 0 0⟩
          · intro ρ w Γx Λx hs hu hp
            have e179 : ρ 42 = .bool (!x161) := (hp 6 rfl).1
            have e180 : ρ 46 = undef := (hp 10 rfl).1
            refine WL.pickT (v := .bool true) (bool_tr e179 hc162) rfl ?_
            exact WL.nil ⟨rfl, _, rfl, rfl, hs.cutG 0 0⟩
          · intro ρ w hs hu181 hp
            obtain ⟨⟨⟨⟨⟨⟨⟨⟨⟨⟨⟨⟨_, hp0_⟩, hp1_⟩, hp2_⟩, hp3_⟩, hp4_⟩, hp5_⟩, hp6_⟩, hp7_⟩, hp8_⟩, hp9_⟩, hp10_⟩, hp11_⟩ := hp
            have hs : St ok (bz w0) w [vl t_fold_Object x158 (ρ 39), vl t_fold_Object x46 (.agg cs47.toArray), vl tStr x42 (bstr x42), pl tStr x42 ad43, vl (tSlice tStr) ([x4, ([97] : List UInt8), ([98] : List UInt8), ([120, 49] : List UInt8)]) (.slice (some ⟨g30, 0, none⟩) ([x4, ([97] : List UInt8), ([98] : List UInt8), ([120, 49] : List UInt8)]).length 4), vl t_fold_Store x20 (.agg cs21.toArray)] [blk g49 51 cs47, blk g23 29 cs21] := hs
            have e182 : ρ 47 = .bool true := hp11_
            have e183 : ρ 46 = undef := hp10_
            have e184 : ρ 45 = undef := hp9_
            have e185 : ρ 44 = undef := hp8_
            have e186 : ρ 43 = undef := hp7_
            have e187 : ρ 42 = .bool (!x161) := hp6_
            have e188 : ρ 41 = .bool (!x161) := hp5_
            have e189 : ρ 40 = .bool x161 := hp4_
            obtain ⟨cs190, e192⟩ := hp3_
            have e192 : ρ 39 = .agg cs190.toArray := e192
            try rw [e192] at hs
            have e193 : ρ 38 = bstr x42 := hp2_
            have e194 : ρ 37 = .agg cs21.toArray := hp1_
            have e195 : ρ 36 = .agg cs47.toArray := hp0_
            have hl191 := hs.agglen (n := 2) 0 rfl rfl rfl
            refine WA.done (by kernel_rfl) ?_
            exact Jk54 true _ _ ((hu181 2 rfl).trans h31_2) ((hu181 7 rfl).trans h31_7) (hu181 10 rfl) ((hu181 27 rfl).trans h31_27) ((hu181 28 rfl).trans h31_28) ((hu181 29 rfl).trans h31_29) e182 ((hs.mask [true, true]).pick [4, 1, 5]) hf
        · refine W.any (by kernel_rfl) 12 0 [true, true, true, true, true, true, true, true, true, true, true, true] rfl rfl (poAt [pv (.agg cs47.toArray), pv (.agg cs21.toArray), pv (bstr x42), pq (fun y : List Value => .agg y.toArray) (fun v => [vl t_fold_Object x158 v]) (fun v => []), pv (.bool x161), pv (.bool (!x161)), pv (.bool (!x161)), pv (.pointer (some ⟨g49, 0, none⟩)), pv (bstr x46.Name), pv (bstr x42), pv (.bool (x46.Name != x42)), pv (.bool (x46.Name != x42))]) (Λ := [blk g49 51 cs47, blk g23 29 cs21]) hs (by kernel_rfl) (by kernel_rfl) (by kernel_rfl) ⟨⟨⟨⟨⟨⟨⟨⟨⟨⟨⟨⟨trivial, ?_⟩, ?_⟩, ?_⟩, ?_⟩, ?_⟩, ?_⟩, ?_⟩, ?_⟩, ?_⟩, ?_⟩, ?_⟩, ?_⟩ ?_
          · intro ρ w Γx Λx hs hu hp
            refine WL.loadAll hs (Λx.length + 0) (getApp rfl) TI51 (hu 10 rfl) hl48 ?_
            exact WL.nil ⟨rfl, _, rfl, rfl, hs.cutG 0 0⟩
          · intro ρ w Γx Λx hs hu hp
            refine WL.loadAll hs (Λx.length + 1) (getApp rfl) TI29 ((hu 7 rfl).trans h31_7) hl22 ?_
            exact WL.nil ⟨rfl, _, rfl, rfl, hs.cutG 0 0⟩
          · intro ρ w Γx Λx hs hu hp
            refine WL.move (v := bstr x42) (hu 9 rfl) ?_
            exact WL.nil ⟨rfl, _, rfl, rfl, hs.cutG 0 0⟩
          · intro ρ w Γx Λx hs hu hp
            have e197 : ρ 37 = .agg cs21.toArray := (hp 1 rfl).1
            have e198 : ρ 38 = bstr x42 := (hp 2 rfl).1
            refine WL.call (vs := [.agg cs21.toArray, bstr x42]) hs FN32 ⟨e197, ⟨e198, trivial⟩⟩ (fun ok hA => esref32_Find.calls (x1 := x20) (x5 := x42) hxx158 (hA.get (Γx.length + 4) (getApp rfl))) ?_
            rintro cs159 w hs
            have hl160 := hs.agglen (n := 2) 0 rfl rfl rfl
            have hs := hs.add (it := vl t_fold_Object x158 (.agg cs159.toArray)) fun ok hA => hA.get 0 rfl
            exact WL.nil ⟨rfl, _, rfl, ⟨cs159, rfl⟩, hs.cutG 1 1⟩
          · intro ρ w Γx Λx hs hu hp
            have e199 : ρ 36 = .agg cs47.toArray := (hp 0 rfl).1
            obtain ⟨⟨cs200, e202r⟩, hm203⟩ := hp 3 rfl
            have e202 : ρ 39 = .agg cs200.toArray := e202r
            rw [e202r] at hm203
            have hs := hs.memo1 (it := vl t_fold_Object x158 (.agg cs200.toArray)) (List.mem_append.2 (.inl (hm203 _ (List.mem_of_getElem? (i := 0) rfl))))
            have hl201 := hs.agglen (n := 2) 0 rfl rfl rfl
            refine WL.call (vs := [.agg cs47.toArray, .agg cs200.toArray]) hs FN31 ⟨e199, ⟨e202, trivial⟩⟩ (fun ok hA => esref32_EqualObject.calls (x1 := x46) (x5 := x158) hxx161 (hA.get (Γx.length + 0 + 1) (getApp1 rfl)) (hA.get 0 rfl)) ?_
            rintro _ w hs
            exact WL.nil ⟨rfl, _, rfl, rfl, hs.cutG 0 1⟩
          · intro ρ w Γx Λx hs hu hp
            have e204 : ρ 40 = .bool x161 := (hp 4 rfl).1
            refine WL.not e204 ?_
            exact WL.nil ⟨rfl, _, rfl, rfl, hs.cutG 0 0⟩
          · intro ρ w Γx Λx hs hu hp
            have e205 : ρ 41 = .bool (!x161) := (hp 5 rfl).1
            refine WL.move (v := .bool (!x161)) e205 ?_
            exact WL.nil ⟨rfl, _, rfl, rfl, hs.cutG 0 0⟩
          · intro ρ w Γx Λx hs hu hp
            have e206 : ρ 42 = .bool (!x161) := (hp 6 rfl).1
            refine WL.fieldAddr (m := 0) (hu 10 rfl) FA51_0 rfl ?_ (hg := (wanted_of rfl rfl (bool_tr e206 hc162)).trans rfl)
            exact WL.nil ⟨rfl, _, rfl, rfl, hs.cutG 0 0⟩
          · intro ρ w Γx Λx hs hu hp
            have e207 : ρ 43 = .pointer (some ⟨g49, 0, none⟩) := (hp 7 rfl).1
            have e208 : ρ 42 = .bool (!x161) := (hp 6 rfl).1
            refine WL.loadF (z := x46.Name) F_fold_Object_Name hs (Λx.length + 0) (getApp rfl) (Γx.length + 0) (getApp rfl) rfl TI9 (.inr rfl) e207 rfl (fun v196 hs => ?_) (hg := (wanted_of rfl rfl (bool_tr e208 hc162)).trans rfl)
            obtain rfl := hs.str 0 rfl
            exact WL.nil ⟨rfl, _, rfl, rfl, hs.cutG 0 1⟩
          · intro ρ w Γx Λx hs hu hp
            have e209 : ρ 42 = .bool (!x161) := (hp 6 rfl).1
            refine WL.move (v := bstr x42) (hu 9 rfl) ?_ (hg := (wanted_of rfl rfl (bool_tr e209 hc162)).trans rfl)
            exact WL.nil ⟨rfl, _, rfl, rfl, hs.cutG 0 0⟩
          · intro ρ w Γx Λx hs hu hp
            have e210 : ρ 44 = bstr x46.Name := (hp 8 rfl).1
            have e211 : ρ 45 = bstr x42 := (hp 9 rfl).1
            have e212 : ρ 42 = .bool (!x161) := (hp 6 rfl).1
            refine WL.binS (v := .bool (x46.Name != x42)) e210 e211 (sb_neq _ _) ?_ (hg := (wanted_of rfl rfl (bool_tr e212 hc162)).trans rfl)
            exact WL.nil ⟨rfl, _, rfl, rfl, hs.cutG 0 0⟩
          · intro ρ w Γx Λx hs hu hp
            have e213 : ρ 42 = .bool (!x161) := (hp 6 rfl).1
            have e214 : ρ 46 = .bool (x46.Name != x42) := (hp 10 rfl).1
            refine WL.pickF (v := .bool (x46.Name != x42)) (bool_tr e213 hc162) e214 ?_
            exact WL.nil ⟨rfl, _, rfl, rfl, hs.cutG 0 0⟩
          · intro ρ w hs hu215 hp
            obtain ⟨⟨⟨⟨⟨⟨⟨⟨⟨⟨⟨⟨_, hp0_⟩, hp1_⟩, hp2_⟩, hp3_⟩, hp4_⟩, hp5_⟩, hp6_⟩, hp7_⟩, hp8_⟩, hp9_⟩, hp10_⟩, hp11_⟩ := hp
            have hs : St ok (bz w0) w [vl t_fold_Object x158 (ρ 39), vl t_fold_Object x46 (.agg cs47.toArray), vl tStr x42 (bstr x42), pl tStr x42 ad43, vl (tSlice tStr) ([x4, ([97] : List UInt8), ([98] : List UInt8), ([120, 49] : List UInt8)]) (.slice (some ⟨g30, 0, none⟩) ([x4, ([97] : List UInt8), ([98] : List UInt8), ([120, 49] : List UInt8)]).length 4), vl t_fold_Store x20 (.agg cs21.toArray)] [blk g49 51 cs47, blk g23 29 cs21] := hs
            have e216 : ρ 47 = .bool (x46.Name != x42) := hp11_
            have e217 : ρ 46 = .bool (x46.Name != x42) := hp10_
            have e218 : ρ 45 = bstr x42 := hp9_
            have e219 : ρ 44 = bstr x46.Name := hp8_
            have e220 : ρ 43 = .pointer (some ⟨g49, 0, none⟩) := hp7_
            have e221 : ρ 42 = .bool (!x161) := hp6_
            have e222 : ρ 41 = .bool (!x161) := hp5_
            have e223 : ρ 40 = .bool x161 := hp4_
            obtain ⟨cs224, e226⟩ := hp3_
            have e226 : ρ 39 = .agg cs224.toArray := e226
            try rw [e226] at hs
            have e227 : ρ 38 = bstr x42 := hp2_
            have e228 : ρ 37 = .agg cs21.toArray := hp1_
            have e229 : ρ 36 = .agg cs47.toArray := hp0_
            have hl225 := hs.agglen (n := 2) 0 rfl rfl rfl
            refine WA.done (by kernel_rfl) ?_
            exact Jk54 (x46.Name != x42) _ _ ((hu215 2 rfl).trans h31_2) ((hu215 7 rfl).trans h31_7) (hu215 10 rfl) ((hu215 27 rfl).trans h31_27) ((hu215 28 rfl).trans h31_28) ((hu215 29 rfl).trans h31_29) e216 ((hs.mask [true, true]).pick [4, 1, 5]) hf
      · refine W.cond_false (bool_tr rfl hc36) ?_
        refine W.exit ?_
        have hr := Option.some.inj hf; subst hr
        have hr := hbbs33 _ rfl; subst hr
        have hf := hfs33
        exact Jk26  _ _  ((hs.mask []).pick []) hf
  refine W.region ?_
  refine WL.move (v := bstr x4) rfl ?_
  refine WL.len (v := bstr x4) rfl (len_string UN9) ?_
  refine WL.bin (v := .bool (decide (40 < (x4.length : Int)))) rfl rfl (ib_gtr _ _ _) ?_
  refine WL.move (v := .bool (decide (40 < (x4.length : Int)))) rfl ?_
  rcases iteE hf with ⟨hc231, hf⟩ | ⟨hc231, hf⟩
  · refine WL.pass ((wanted_of rfl rfl (bool_tr rfl hc231)).trans rfl) rfl ?_
    refine WL.pass ((wanted_of rfl rfl (bool_tr rfl hc231)).trans rfl) rfl ?_
    refine WL.pass ((wanted_of rfl rfl (bool_tr rfl hc231)).trans rfl) rfl ?_
    refine WL.pickT (v := .bool true) (bool_tr rfl hc231) rfl ?_
    refine WL.nil ?_
    exact Jk11 true _ _ rfl rfl rfl rfl ((hs.mask []).pick [0]) hf
  · refine WL.move (v := bstr x5) rfl ?_ (hg := (wanted_of rfl rfl (bool_tr rfl hc231)).trans rfl)
    refine WL.len (v := bstr x5) rfl (len_string UN9) ?_ (hg := (wanted_of rfl rfl (bool_tr rfl hc231)).trans rfl)
    refine WL.bin (v := .bool (decide (40 < (x5.length : Int)))) rfl rfl (ib_gtr _ _ _) ?_ (hg := (wanted_of rfl rfl (bool_tr rfl hc231)).trans rfl)
    refine WL.pickF (v := .bool (decide (40 < (x5.length : Int)))) (bool_tr rfl hc231) rfl ?_
    refine WL.nil ?_
    exact Jk11 (decide (40 < (x5.length : Int))) _ _ rfl rfl rfl rfl ((hs.mask []).pick [0]) hf
/-! elasticstore/elasticstorelaw00.At: function 25 -/
theorem eslaw00_At.calls {ok : Nat → Prop} {w0 : World} {x1 : List Int} {x4 : Int} {a2 : Option Addr} {c3 : Nat} {r : Int} (hf : eslaw00_At x1 x4 = some r) (i0 : (vl (tSlice (tInt .i64)) x1 (.slice a2 x1.length c3)).holds ok w0) :
    Calls Try.prog 25 #[.slice a2 x1.length c3, .int .i64 x4] w0 fun e w' => ∃ v, e = .returned v ∧ ∃ y : Unit, v = .int .i64 r ∧ St ok (bz w0) w' [] [] := by
  unfold eslaw00_At at hf
  refine calls_of_W (fn := Try.f25) (N := 15) Try.func25 rfl Try.ntmps25 rfl ?_
  have hs : St ok (bz w0) w0 [vl (tSlice (tInt .i64)) x1 (.slice a2 x1.length c3)] [] := St.init (All.cons i0 All.nil)
  clear i0
  refine W.seqK fun K5 hK5 => ?_
  refine W.region ?_
  refine WL.assign (v := .int .i64 0) rfl ?_
  refine WL.nil ?_
  refine hK5 _ _ ?_
  refine W.seqK fun K6 hK6 => ?_
  refine W.seqK fun K7 hK7 => ?_
  refine W.region ?_
  refine WL.move (v := .slice a2 x1.length c3) rfl ?_
  refine WL.len (v := .slice a2 x1.length c3) rfl (len_slice UN35) ?_
  refine WL.bin (v := .bool ((x1.length : Int) == 0)) rfl rfl (ib_eql _ _ _) ?_
  refine WL.nil ?_
  refine hK7 _ _ ?_
  rcases iteE hf with ⟨hc8, hf⟩ | ⟨hc8, hf⟩
  · refine W.cond_true (bool_tr rfl hc8) ?_
    refine W.seqK fun K9 hK9 => ?_
    refine W.region ?_
    refine WL.assign (v := .int .i64 0) rfl ?_
    refine WL.nil ?_
    refine hK9 _ _ ?_
    refine W.ret ?_
    have hr := Option.some.inj hf; subst hr
    exact ⟨_, resOk_one rfl rfl, (), rfl, (hs.mask []).pick []⟩
  · refine W.cond_false (bool_tr rfl hc8) ?_
    refine W.skip ?_
    refine hK6 _ _ ?_
    refine W.seqK fun K10 hK10 => ?_
    refine W.region ?_
    refine WL.move (v := .slice a2 x1.length c3) rfl ?_
    refine WL.move (v := .int .i64 x4) rfl ?_
    refine WL.move (v := .slice a2 x1.length c3) rfl ?_
    refine WL.len (v := .slice a2 x1.length c3) rfl (len_slice UN35) ?_
    obtain ⟨x11, hxx11, hf⟩ := bindE hf
    refine WL.call (vs := [.int .i64 x4, .int .i64 (x1.length : Int)]) hs FN24 ⟨rfl, ⟨rfl, trivial⟩⟩ (fun ok hA => eslaw00_Index.calls (x1 := x4) (x2 := (x1.length : Int)) hxx11) ?_
    rintro _ w hs
    obtain ⟨x12, hxx12, hf⟩ := bindE hf
    refine WL.indexAddr hs 0 rfl UN35 TI3 rfl rfl hxx12 (fun ad13 hs => ?_)
    refine WL.loadP hs 0 rfl TI3 (.inr rfl) rfl (fun v14 hs => ?_)
    obtain rfl := hs.int 0 rfl
    refine WL.assign (v := .int .i64 x12) rfl ?_
    refine WL.nil ?_
    refine hK10 _ _ ?_
    refine W.ret ?_
    have hr := Option.some.inj hf; subst hr
    exact ⟨_, resOk_one rfl rfl, (), rfl, (hs.mask []).pick []⟩
end Go.Proofs.Ytlbcfjblpopcnaa
