import Derived.Test.YtlbcfjblpopcnaaFh
import Derived.Test.YtlbcfjblpopcnaaLz
import Derived.Test.YtlbcfjblpopcnaaFp1
import Derived.Test.YtlbcfjblpopcnaaFp2
import Derived.Test.YtlbcfjblpopcnaaFp5
set_option linter.unusedVariables false
set_option linter.unusedSimpArgs false
namespace Go.Proofs.Ytlbcfjblpopcnaa
open Go Go.RowKit Go.Proofs.YtlbcfjblpopcnaaL
set_option maxRecDepth 100000
set_option maxHeartbeats 4000000
/-! elasticstore/elasticstorelaw30.FoldSorted: function 9 -/
theorem eslaw30_FoldSorted.calls {ok : Nat → Prop} {w0 : World} {x1 : List Int} {x4 : Int} {a2 : Option Addr} {c3 : Nat} {r : Bool} (hf : eslaw30_FoldSorted x1 x4 = some r) (i0 : (vl (tSlice (tInt .i64)) x1 (.slice a2 x1.length c3)).holds ok w0) :
    Calls Try.prog 9 #[.slice a2 x1.length c3, .int .i64 x4] w0 fun e w' => ∃ v, e = .returned v ∧ ∃ y : Unit, v = .bool r ∧ St ok (bz w0) w' [] [] := by
  unfold eslaw30_FoldSorted at hf
  refine calls_of_W (fn := Try.f9) (N := 104) Try.func9 rfl Try.ntmps9 rfl ?_
  have hs : St ok (bz w0) w0 [vl (tSlice (tInt .i64)) x1 (.slice a2 x1.length c3)] [] := St.init (All.cons i0 All.nil)
  clear i0
  refine W.seqK fun K5 hK5 => ?_
  refine W.region ?_
  refine WL.assign (v := .bool false) rfl ?_
  refine WL.nil ?_
  refine hK5 _ _ ?_
  refine W.seqK fun K6 hK6 => ?_
  refine W.region ?_
  refine WL.move (v := .slice a2 x1.length c3) rfl ?_
  obtain ⟨x7, hxx7, hf⟩ := bindE hf
  refine WL.call (vs := [.slice a2 x1.length c3]) hs FN19 ⟨rfl, trivial⟩ (fun ok hA => eslaw00_Updates.calls (x1 := x1) hxx7 (hA.get 0 rfl)) ?_
  rintro ⟨a8, n9, c10⟩ w hs
  refine WL.move (v := .int .i64 x4) rfl ?_
  obtain rfl := hs.ownLen 0 rfl
  have hs := hs.freezeOwn 0 rfl
  obtain ⟨x11, hxx11, hf⟩ := bindE hf
  refine WL.call (vs := [.slice a8 x7.length c10, .int .i64 x4]) hs FN18 ⟨rfl, ⟨rfl, trivial⟩⟩ (fun ok hA => eslaw00_Some.calls (x1 := x7) (x4 := x4) hxx11 (hA.get 0 rfl)) ?_
  rintro ⟨a12, n13, c14⟩ w hs
  obtain rfl := hs.ownLen 0 rfl
  have hs := hs.freezeOwn 0 rfl
  obtain ⟨x15, hxx15, hf⟩ := bindE hf
  refine WL.call (vs := [.slice a12 x11.length c14]) hs FN13 ⟨rfl, trivial⟩ (fun ok hA => fold_Fold.calls (x1 := x11) hxx15 (hA.get 0 rfl)) ?_
  rintro cs16 w hs
  have hl17 := hs.agglen (n := 1) 0 rfl rfl rfl
  refine WL.alloc hs ZV29 (fun g18 w hs => ?_)
  refine WL.storeAll (vs := cs16) hs 0 rfl TI29 rfl rfl rfl hl17 (hs.ones 0 rfl rfl) rfl (fun w hs => ?_)
  refine WL.nil ?_
  refine hK6 _ _ ?_
  refine W.seqK fun K19 hK19 => ?_
  have Jk21 : ∀  (ρ : Env) (w : World), St ok (bz w0) w [] [] → eslaw30_FoldSorted.j1 = some r → K19 ρ w := by
    intro  ρ w  hs hf
    refine hK19 _ _ ?_
    unfold eslaw30_FoldSorted.j1 at hf
    refine W.seqK fun K22 hK22 => ?_
    refine W.region ?_
    obtain ⟨x23, hxx23, hf⟩ := bindE hf
    refine WL.call (vs := []) hs FN12 trivial (fun ok hA => eslaw30_awake.calls hxx23) ?_
    rintro _ w hs
    refine WL.assign (v := .bool x23) rfl ?_
    refine WL.nil ?_
    refine hK22 _ _ ?_
    refine W.ret ?_
    have hr := Option.some.inj hf; subst hr
    exact ⟨_, resOk_one rfl rfl, (), rfl, (hs.mask []).pick []⟩
  refine W.seqK fun K24 hK24 => ?_
  refine W.region ?_
  refine WL.assign (v := .int .i64 0) rfl ?_
  refine WL.nil ?_
  refine hK24 _ _ ?_
  refine W.block ?_
  obtain ⟨bs27, hbs27, hfs27⟩ := bindE hf
  refine W.loop hbs27 (fun s ρ w => match s with | x26 => ρ 5 = .pointer (some ⟨g18, 0, none⟩) ∧ ρ 6 = .int .i64 x26 ∧ St ok (bz w0) w [vl t_fold_Store x15 (.agg cs16.toArray)] [blk g18 29 cs16]) ⟨rfl, rfl, (hs.mask [true]).pick [0]⟩ ?_
  intro x26 ρ w os27 hI hf hbbs27
  obtain ⟨h25_5, h25_6, hs⟩ := hI
  unfold eslaw30_FoldSorted.l3 at hf
  refine W.seqK fun K28 hK28 => ?_
  refine W.seqK fun K29 hK29 => ?_
  refine W.region ?_
  refine WL.move (v := .int .i64 x26) h25_6 ?_
  refine WL.fieldAddr (m := 0) h25_5 FA29_0 rfl ?_
  refine WL.loadF (z := x15.Objects) F_fold_Store_Objects hs 0 rfl 0 rfl rfl TI27 (.inr rfl) rfl rfl (fun v30 hs => ?_)
  obtain ⟨a31, c32, rfl⟩ := hs.slice 0 rfl
  refine WL.len (v := .slice a31 (x15.Objects).length c32) rfl (len_slice UN27) ?_
  refine WL.bin (v := .bool (decide (x26 < ((x15.Objects).length : Int)))) rfl rfl (ib_lss _ _ _) ?_
  refine WL.nil ?_
  refine hK29 _ _ ?_
  rcases iteE hf with ⟨hc33, hf⟩ | ⟨hc33, hf⟩
  · refine W.cond_true (bool_tr rfl hc33) ?_
    refine W.skip ?_
    refine hK28 _ _ ?_
    refine W.seqK fun K34 hK34 => ?_
    have Jk36 : ∀  (ρ : Env) (w : World), ρ 5 = .pointer (some ⟨g18, 0, none⟩) → ρ 6 = .int .i64 x26 → St ok (bz w0) w [vl t_fold_Store x15 (.agg cs16.toArray)] [blk g18 29 cs16] → eslaw30_FoldSorted.j2 x26 = some os27 → K34 ρ w := by
      intro  ρ w h35_5 h35_6 hs hf
      refine hK34 _ _ ?_
      unfold eslaw30_FoldSorted.j2 at hf
      refine W.region ?_
      refine WL.move (v := .int .i64 x26) h35_6 ?_
      obtain ⟨x37, ex37, hf⟩ := letE hf
      refine WL.bin (v := .int .i64 x37) rfl rfl (ib_as ex37 (ib_add _ _ _)) ?_
      refine WL.assign (v := .int .i64 x37) rfl ?_
      refine WL.nil ?_
      exact ⟨_, (Option.some.inj hf).symm, h35_5, rfl, (hs.mask [true]).pick [0]⟩
    refine W.block ?_
    refine W.seqK fun K38 hK38 => ?_
    refine W.region ?_
    refine WL.fieldAddr (m := 0) h25_5 FA29_0 rfl ?_
    refine WL.loadF (z := x15.Objects) F_fold_Store_Objects hs 0 rfl 1 rfl rfl TI27 (.inr rfl) rfl rfl (fun v39 hs => ?_)
    obtain ⟨a40, c41, rfl⟩ := hs.slice 0 rfl
    refine WL.move (v := .int .i64 x26) h25_6 ?_
    obtain ⟨x42, hxx42, hf⟩ := bindE hf
    refine WL.indexAddr hs 0 rfl UN27 TI51 rfl rfl hxx42 (fun ad43 hs => ?_)
    refine WL.loadP hs 0 rfl TI51 (.inl rfl) rfl (fun v44 hs => ?_)
    obtain ⟨cs45, hl46, rfl⟩ := hs.aggv (n := 2) 0 rfl rfl rfl
    refine WL.alloc hs ZV51 (fun g47 w hs => ?_)
    refine WL.storeAll (vs := cs45) hs 0 rfl TI51 rfl rfl rfl hl46 (hs.ones 0 rfl rfl) rfl (fun w hs => ?_)
    refine WL.nil ?_
    refine hK38 _ _ ?_
    refine W.seqK fun K48 hK48 => ?_
    refine W.seqK fun K49 hK49 => ?_
    have Jk52 : ∀ (x51 : Bool) (ρ : Env) (w : World), ρ 5 = .pointer (some ⟨g18, 0, none⟩) → ρ 6 = .int .i64 x26 → ρ 7 = .pointer (some ⟨g47, 0, none⟩) → ρ 46 = .bool x51 → St ok (bz w0) w [vl t_fold_Object x42 (.agg cs45.toArray), vl t_fold_Store x15 (.agg cs16.toArray)] [blk g47 51 cs45, blk g18 29 cs16] → eslaw30_FoldSorted.j5 x26 x42 x51 = some os27 → K49 ρ w := by
      intro x51 ρ w h50_5 h50_6 h50_7 h50_46 hs hf
      refine hK49 _ _ ?_
      unfold eslaw30_FoldSorted.j5 at hf
      rcases iteE hf with ⟨hc53, hf⟩ | ⟨hc53, hf⟩
      · refine W.cond_true (bool_tr h50_46 hc53) ?_
        refine W.seqK fun K54 hK54 => ?_
        refine W.region ?_
        refine WL.assign (v := .bool false) rfl ?_
        refine WL.nil ?_
        refine hK54 _ _ ?_
        refine W.ret ?_
        have hr := Option.some.inj hf; subst hr
        have hr := hbbs27 _ rfl; subst hr
        have hf := hfs27
        have hr := Option.some.inj hf; subst hr
        exact ⟨_, resOk_one rfl rfl, (), rfl, (hs.mask []).pick []⟩
      · refine W.cond_false (bool_tr h50_46 hc53) ?_
        refine W.skip ?_
        refine hK48 _ _ ?_
        refine W.seqK fun K55 hK55 => ?_
        refine W.region ?_
        refine WL.assign (v := .int .i64 0) rfl ?_
        refine WL.nil ?_
        refine hK55 _ _ ?_
        refine W.block ?_
        obtain ⟨bs58, hbs58, hfs58⟩ := bindE hf
        refine W.loop hbs58 (fun s ρ w => match s with | x57 => ρ 5 = .pointer (some ⟨g18, 0, none⟩) ∧ ρ 6 = .int .i64 x26 ∧ ρ 7 = .pointer (some ⟨g47, 0, none⟩) ∧ ρ 8 = .int .i64 x57 ∧ St ok (bz w0) w [vl t_fold_Object x42 (.agg cs45.toArray), vl t_fold_Store x15 (.agg cs16.toArray)] [blk g47 51 cs45, blk g18 29 cs16]) ⟨h50_5, h50_6, h50_7, rfl, (hs.mask [true, true]).pick [0, 1]⟩ ?_
        intro x57 ρ w os58 hI hf hbbs58
        obtain ⟨h56_5, h56_6, h56_7, h56_8, hs⟩ := hI
        unfold eslaw30_FoldSorted.l2 at hf
        refine W.seqK fun K59 hK59 => ?_
        refine W.seqK fun K60 hK60 => ?_
        refine W.region ?_
        refine WL.move (v := .int .i64 x57) h56_8 ?_
        refine WL.fieldAddr (m := 1) h56_7 FA51_1 rfl ?_
        refine WL.loadF (z := x42.Fields) F_fold_Object_Fields hs 0 rfl 0 rfl rfl TI49 (.inr rfl) rfl rfl (fun v61 hs => ?_)
        obtain ⟨a62, c63, rfl⟩ := hs.slice 0 rfl
        refine WL.len (v := .slice a62 (x42.Fields).length c63) rfl (len_slice UN49) ?_
        refine WL.bin (v := .bool (decide (x57 < ((x42.Fields).length : Int)))) rfl rfl (ib_lss _ _ _) ?_
        refine WL.nil ?_
        refine hK60 _ _ ?_
        rcases iteE hf with ⟨hc64, hf⟩ | ⟨hc64, hf⟩
        · refine W.cond_true (bool_tr rfl hc64) ?_
          refine W.skip ?_
          refine hK59 _ _ ?_
          refine W.seqK fun K65 hK65 => ?_
          have Jk67 : ∀  (ρ : Env) (w : World), ρ 5 = .pointer (some ⟨g18, 0, none⟩) → ρ 6 = .int .i64 x26 → ρ 7 = .pointer (some ⟨g47, 0, none⟩) → ρ 8 = .int .i64 x57 → St ok (bz w0) w [vl t_fold_Object x42 (.agg cs45.toArray), vl t_fold_Store x15 (.agg cs16.toArray)] [blk g47 51 cs45, blk g18 29 cs16] → eslaw30_FoldSorted.j3 x57 = some os58 → K65 ρ w := by
            intro  ρ w h66_5 h66_6 h66_7 h66_8 hs hf
            refine hK65 _ _ ?_
            unfold eslaw30_FoldSorted.j3 at hf
            refine W.region ?_
            refine WL.move (v := .int .i64 x57) h66_8 ?_
            obtain ⟨x68, ex68, hf⟩ := letE hf
            refine WL.bin (v := .int .i64 x68) rfl rfl (ib_as ex68 (ib_add _ _ _)) ?_
            refine WL.assign (v := .int .i64 x68) rfl ?_
            refine WL.nil ?_
            exact ⟨_, (Option.some.inj hf).symm, h66_5, h66_6, h66_7, rfl, (hs.mask [true, true]).pick [0, 1]⟩
          refine W.block ?_
          refine W.seqK fun K69 hK69 => ?_
          refine W.seqK fun K70 hK70 => ?_
          have Jk73 : ∀ (x72 : Bool) (ρ : Env) (w : World), ρ 5 = .pointer (some ⟨g18, 0, none⟩) → ρ 6 = .int .i64 x26 → ρ 7 = .pointer (some ⟨g47, 0, none⟩) → ρ 8 = .int .i64 x57 → ρ 71 = .bool x72 → St ok (bz w0) w [vl t_fold_Object x42 (.agg cs45.toArray), vl t_fold_Store x15 (.agg cs16.toArray)] [blk g47 51 cs45, blk g18 29 cs16] → eslaw30_FoldSorted.j4 x42 x57 x72 = some os58 → K70 ρ w := by
            intro x72 ρ w h71_5 h71_6 h71_7 h71_8 h71_71 hs hf
            refine hK70 _ _ ?_
            unfold eslaw30_FoldSorted.j4 at hf
            rcases iteE hf with ⟨hc74, hf⟩ | ⟨hc74, hf⟩
            · refine W.cond_true (bool_tr h71_71 hc74) ?_
              refine W.seqK fun K75 hK75 => ?_
              refine W.region ?_
              refine WL.assign (v := .bool false) rfl ?_
              refine WL.nil ?_
              refine hK75 _ _ ?_
              refine W.ret ?_
              have hr := Option.some.inj hf; subst hr
              have hr := hbbs58 _ rfl; subst hr
              have hf := hfs58
              have hr := Option.some.inj hf; subst hr
              have hr := hbbs27 _ rfl; subst hr
              have hf := hfs27
              have hr := Option.some.inj hf; subst hr
              exact ⟨_, resOk_one rfl rfl, (), rfl, (hs.mask []).pick []⟩
            · refine W.cond_false (bool_tr h71_71 hc74) ?_
              refine W.skip ?_
              refine hK69 _ _ ?_
              refine W.seqK fun K76 hK76 => ?_
              refine W.region ?_
              refine WL.assign (v := .int .i64 1) rfl ?_
              refine WL.nil ?_
              refine hK76 _ _ ?_
              refine W.block ?_
              obtain ⟨bs79, hbs79, hfs79⟩ := bindE hf
              refine W.loop hbs79 (fun s ρ w => match s with | x78 => ρ 5 = .pointer (some ⟨g18, 0, none⟩) ∧ ρ 6 = .int .i64 x26 ∧ ρ 7 = .pointer (some ⟨g47, 0, none⟩) ∧ ρ 8 = .int .i64 x57 ∧ ρ 9 = .int .i64 x78 ∧ St ok (bz w0) w [vl t_fold_Object x42 (.agg cs45.toArray), vl t_fold_Store x15 (.agg cs16.toArray)] [blk g47 51 cs45, blk g18 29 cs16]) ⟨h71_5, h71_6, h71_7, h71_8, rfl, (hs.mask [true, true]).pick [0, 1]⟩ ?_
              intro x78 ρ w os79 hI hf hbbs79
              obtain ⟨h77_5, h77_6, h77_7, h77_8, h77_9, hs⟩ := hI
              unfold eslaw30_FoldSorted.l1 at hf
              refine W.seqK fun K80 hK80 => ?_
              refine W.seqK fun K81 hK81 => ?_
              refine W.region ?_
              refine WL.move (v := .int .i64 x78) h77_9 ?_
              refine WL.fieldAddr (m := 1) h77_7 FA51_1 rfl ?_
              refine WL.loadF (z := x42.Fields) F_fold_Object_Fields hs 0 rfl 0 rfl rfl TI49 (.inr rfl) rfl rfl (fun v82 hs => ?_)
              obtain ⟨a83, c84, rfl⟩ := hs.slice 0 rfl
              refine WL.move (v := .int .i64 x57) h77_8 ?_
              obtain ⟨x85, hxx85, hf⟩ := bindE hf
              refine WL.indexAddr hs 0 rfl UN49 TI57 rfl rfl hxx85 (fun ad86 hs => ?_)
              refine WL.fieldAddrP (z := x85.Elems) F_fold_Field_Elems hs 0 rfl rfl FA57_5 rfl (fun ad87 hs => ?_)
              refine WL.loadP hs 0 rfl TI55 (.inr rfl) rfl (fun v88 hs => ?_)
              obtain ⟨a89, c90, rfl⟩ := hs.slice 0 rfl
              refine WL.len (v := .slice a89 (x85.Elems).length c90) rfl (len_slice UN55) ?_
              refine WL.bin (v := .bool (decide (x78 < ((x85.Elems).length : Int)))) rfl rfl (ib_lss _ _ _) ?_
              refine WL.nil ?_
              refine hK81 _ _ ?_
              rcases iteE hf with ⟨hc91, hf⟩ | ⟨hc91, hf⟩
              · refine W.cond_true (bool_tr rfl hc91) ?_
                refine W.skip ?_
                refine hK80 _ _ ?_
                refine W.seqK fun K92 hK92 => ?_
                refine W.block ?_
                refine W.seqK fun K93 hK93 => ?_
                obtain ⟨x97, hxx97, hf⟩ := bindE hf
                obtain ⟨x103, hxx103, hf⟩ := bindE hf
                obtain ⟨x109, hxx109, hf⟩ := bindE hf
                obtain ⟨x115, ex115, hf⟩ := letE hf
                obtain ⟨x116, hxx116, hf⟩ := bindE hf
                refine W.any (by kernel_rfl) 20 0 [true, true, true, true, true, true, true, true, true, true, true, true, true, true, true, true, true, true, true, true] rfl rfl (poAt [pv (.pointer (some ⟨g47, 1, none⟩)), pq (fun y : (Option Addr × Nat) => .slice y.1 (x42.Fields).length y.2) (fun v => [vl (tSlice t_fold_Field) x42.Fields v]) (fun v => []), pv (.int .i64 x57), pq (fun y : Addr => .pointer (some y)) (fun v => [pl t_fold_Field x97 (adOf v)]) (fun v => []), pq (fun y : Addr => .pointer (some y)) (fun v => [pl (tSlice tStr) x97.Elems (adOf v)]) (fun v => []), pq (fun y : (Option Addr × Nat) => .slice y.1 (x97.Elems).length y.2) (fun v => [vl (tSlice tStr) x97.Elems v]) (fun v => []), pv (.int .i64 x78), pq (fun y : Addr => .pointer (some y)) (fun v => [pl tStr x103 (adOf v)]) (fun v => []), pv (bstr x103), pv (.pointer (some ⟨g47, 1, none⟩)), pq (fun y : (Option Addr × Nat) => .slice y.1 (x42.Fields).length y.2) (fun v => [vl (tSlice t_fold_Field) x42.Fields v]) (fun v => []), pv (.int .i64 x57), pq (fun y : Addr => .pointer (some y)) (fun v => [pl t_fold_Field x109 (adOf v)]) (fun v => []), pq (fun y : Addr => .pointer (some y)) (fun v => [pl (tSlice tStr) x109.Elems (adOf v)]) (fun v => []), pq (fun y : (Option Addr × Nat) => .slice y.1 (x109.Elems).length y.2) (fun v => [vl (tSlice tStr) x109.Elems v]) (fun v => []), pv (.int .i64 x78), pv (.int .i64 x115), pq (fun y : Addr => .pointer (some y)) (fun v => [pl tStr x116 (adOf v)]) (fun v => []), pv (bstr x116), pv (.bool ((Op.bytesLess x103 x116 || x103 == x116)))]) (Λ := [blk g47 51 cs45, blk g18 29 cs16]) hs (by kernel_rfl) (by kernel_rfl) (by kernel_rfl) ⟨⟨⟨⟨⟨⟨⟨⟨⟨⟨⟨⟨⟨⟨⟨⟨⟨⟨⟨⟨trivial, ?_⟩, ?_⟩, ?_⟩, ?_⟩, ?_⟩, ?_⟩, ?_⟩, ?_⟩, ?_⟩, ?_⟩, ?_⟩, ?_⟩, ?_⟩, ?_⟩, ?_⟩, ?_⟩, ?_⟩, ?_⟩, ?_⟩, ?_⟩ ?_
                · intro ρ w Γx Λx hs hu hp
                  refine WL.fieldAddr (m := 1) ((hu 7 rfl).trans h77_7) FA51_1 rfl ?_
                  exact WL.nil ⟨rfl, _, rfl, rfl, hs.cutG 0 0⟩
                · intro ρ w Γx Λx hs hu hp
                  have e119 : ρ 83 = .pointer (some ⟨g47, 1, none⟩) := (hp 0 rfl).1
                  refine WL.loadF (z := x42.Fields) F_fold_Object_Fields hs (Λx.length + 0) (getApp rfl) (Γx.length + 4) (getApp rfl) rfl TI49 (.inr rfl) e119 rfl (fun v94 hs => ?_)
                  obtain ⟨a95, c96, rfl⟩ := hs.slice 0 rfl
                  have hs := hs.add (it := vl (tSlice t_fold_Field) x42.Fields (.slice a95 (x42.Fields).length c96)) fun ok hA => hA.get 0 rfl
                  exact WL.nil ⟨rfl, _, rfl, ⟨(a95, c96), rfl⟩, hs.cutG 1 1⟩
                · intro ρ w Γx Λx hs hu hp
                  refine WL.move (v := .int .i64 x57) ((hu 8 rfl).trans h77_8) ?_
                  exact WL.nil ⟨rfl, _, rfl, rfl, hs.cutG 0 0⟩
                · intro ρ w Γx Λx hs hu hp
                  obtain ⟨⟨⟨a120, c121⟩, e122r⟩, hm123⟩ := hp 1 rfl
                  have e122 : ρ 84 = .slice a120 (x42.Fields).length c121 := e122r
                  rw [e122r] at hm123
                  have hs := hs.memo1 (it := vl (tSlice t_fold_Field) x42.Fields (.slice a120 (x42.Fields).length c121)) (List.mem_append.2 (.inl (hm123 _ (List.mem_of_getElem? (i := 0) rfl))))
                  have e124 : ρ 85 = .int .i64 x57 := (hp 2 rfl).1
                  refine WL.indexAddr hs 0 rfl UN49 TI57 e122 e124 hxx97 (fun ad98 hs => ?_)
                  have hs := hs.add (it := pl t_fold_Field x97 ad98) fun ok hA => hA.get 0 rfl
                  exact WL.nil ⟨rfl, _, rfl, ⟨ad98, rfl⟩, hs.cutG 1 2⟩
                · intro ρ w Γx Λx hs hu hp
                  obtain ⟨⟨ad125, e126r⟩, hm127⟩ := hp 3 rfl
                  have e126 : ρ 86 = .pointer (some ad125) := e126r
                  rw [e126r] at hm127
                  have hs := hs.memo1 (it := pl t_fold_Field x97 ad125) (List.mem_append.2 (.inl (hm127 _ (List.mem_of_getElem? (i := 0) rfl))))
                  refine WL.fieldAddrP (z := x97.Elems) F_fold_Field_Elems hs 0 rfl e126 FA57_5 rfl (fun ad99 hs => ?_)
                  have hs := hs.add (it := pl (tSlice tStr) x97.Elems ad99) fun ok hA => hA.get 0 rfl
                  exact WL.nil ⟨rfl, _, rfl, ⟨ad99, rfl⟩, hs.cutG 1 2⟩
                · intro ρ w Γx Λx hs hu hp
                  obtain ⟨⟨ad128, e129r⟩, hm130⟩ := hp 4 rfl
                  have e129 : ρ 87 = .pointer (some ad128) := e129r
                  rw [e129r] at hm130
                  have hs := hs.memo1 (it := pl (tSlice tStr) x97.Elems ad128) (List.mem_append.2 (.inl (hm130 _ (List.mem_of_getElem? (i := 0) rfl))))
                  refine WL.loadP hs 0 rfl TI55 (.inr rfl) e129 (fun v100 hs => ?_)
                  obtain ⟨a101, c102, rfl⟩ := hs.slice 0 rfl
                  have hs := hs.add (it := vl (tSlice tStr) x97.Elems (.slice a101 (x97.Elems).length c102)) fun ok hA => hA.get 0 rfl
                  exact WL.nil ⟨rfl, _, rfl, ⟨(a101, c102), rfl⟩, hs.cutG 1 2⟩
                · intro ρ w Γx Λx hs hu hp
                  refine WL.move (v := .int .i64 x78) ((hu 9 rfl).trans h77_9) ?_
                  exact WL.nil ⟨rfl, _, rfl, rfl, hs.cutG 0 0⟩
                · intro ρ w Γx Λx hs hu hp
                  obtain ⟨⟨⟨a131, c132⟩, e133r⟩, hm134⟩ := hp 5 rfl
                  have e133 : ρ 88 = .slice a131 (x97.Elems).length c132 := e133r
                  rw [e133r] at hm134
                  have hs := hs.memo1 (it := vl (tSlice tStr) x97.Elems (.slice a131 (x97.Elems).length c132)) (List.mem_append.2 (.inl (hm134 _ (List.mem_of_getElem? (i := 0) rfl))))
                  have e135 : ρ 89 = .int .i64 x78 := (hp 6 rfl).1
                  refine WL.indexAddr hs 0 rfl UN55 TI9 e133 e135 hxx103 (fun ad104 hs => ?_)
                  have hs := hs.add (it := pl tStr x103 ad104) fun ok hA => hA.get 0 rfl
                  exact WL.nil ⟨rfl, _, rfl, ⟨ad104, rfl⟩, hs.cutG 1 2⟩
                · intro ρ w Γx Λx hs hu hp
                  obtain ⟨⟨ad136, e137r⟩, hm138⟩ := hp 7 rfl
                  have e137 : ρ 90 = .pointer (some ad136) := e137r
                  rw [e137r] at hm138
                  have hs := hs.memo1 (it := pl tStr x103 ad136) (List.mem_append.2 (.inl (hm138 _ (List.mem_of_getElem? (i := 0) rfl))))
                  refine WL.loadP hs 0 rfl TI9 (.inr rfl) e137 (fun v105 hs => ?_)
                  obtain rfl := hs.str 0 rfl
                  exact WL.nil ⟨rfl, _, rfl, rfl, hs.cutG 0 2⟩
                · intro ρ w Γx Λx hs hu hp
                  refine WL.fieldAddr (m := 1) ((hu 7 rfl).trans h77_7) FA51_1 rfl ?_
                  exact WL.nil ⟨rfl, _, rfl, rfl, hs.cutG 0 0⟩
                · intro ρ w Γx Λx hs hu hp
                  have e139 : ρ 92 = .pointer (some ⟨g47, 1, none⟩) := (hp 9 rfl).1
                  refine WL.loadF (z := x42.Fields) F_fold_Object_Fields hs (Λx.length + 0) (getApp rfl) (Γx.length + 4) (getApp rfl) rfl TI49 (.inr rfl) e139 rfl (fun v106 hs => ?_)
                  obtain ⟨a107, c108, rfl⟩ := hs.slice 0 rfl
                  have hs := hs.add (it := vl (tSlice t_fold_Field) x42.Fields (.slice a107 (x42.Fields).length c108)) fun ok hA => hA.get 0 rfl
                  exact WL.nil ⟨rfl, _, rfl, ⟨(a107, c108), rfl⟩, hs.cutG 1 1⟩
                · intro ρ w Γx Λx hs hu hp
                  refine WL.move (v := .int .i64 x57) ((hu 8 rfl).trans h77_8) ?_
                  exact WL.nil ⟨rfl, _, rfl, rfl, hs.cutG 0 0⟩
                · intro ρ w Γx Λx hs hu hp
                  obtain ⟨⟨⟨a140, c141⟩, e142r⟩, hm143⟩ := hp 10 rfl
                  have e142 : ρ 93 = .slice a140 (x42.Fields).length c141 := e142r
                  rw [e142r] at hm143
                  have hs := hs.memo1 (it := vl (tSlice t_fold_Field) x42.Fields (.slice a140 (x42.Fields).length c141)) (List.mem_append.2 (.inl (hm143 _ (List.mem_of_getElem? (i := 0) rfl))))
                  have e144 : ρ 94 = .int .i64 x57 := (hp 11 rfl).1
                  refine WL.indexAddr hs 0 rfl UN49 TI57 e142 e144 hxx109 (fun ad110 hs => ?_)
                  have hs := hs.add (it := pl t_fold_Field x109 ad110) fun ok hA => hA.get 0 rfl
                  exact WL.nil ⟨rfl, _, rfl, ⟨ad110, rfl⟩, hs.cutG 1 2⟩
                · intro ρ w Γx Λx hs hu hp
                  obtain ⟨⟨ad145, e146r⟩, hm147⟩ := hp 12 rfl
                  have e146 : ρ 95 = .pointer (some ad145) := e146r
                  rw [e146r] at hm147
                  have hs := hs.memo1 (it := pl t_fold_Field x109 ad145) (List.mem_append.2 (.inl (hm147 _ (List.mem_of_getElem? (i := 0) rfl))))
                  refine WL.fieldAddrP (z := x109.Elems) F_fold_Field_Elems hs 0 rfl e146 FA57_5 rfl (fun ad111 hs => ?_)
                  have hs := hs.add (it := pl (tSlice tStr) x109.Elems ad111) fun ok hA => hA.get 0 rfl
                  exact WL.nil ⟨rfl, _, rfl, ⟨ad111, rfl⟩, hs.cutG 1 2⟩
                · intro ρ w Γx Λx hs hu hp
                  obtain ⟨⟨ad148, e149r⟩, hm150⟩ := hp 13 rfl
                  have e149 : ρ 96 = .pointer (some ad148) := e149r
                  rw [e149r] at hm150
                  have hs := hs.memo1 (it := pl (tSlice tStr) x109.Elems ad148) (List.mem_append.2 (.inl (hm150 _ (List.mem_of_getElem? (i := 0) rfl))))
                  refine WL.loadP hs 0 rfl TI55 (.inr rfl) e149 (fun v112 hs => ?_)
                  obtain ⟨a113, c114, rfl⟩ := hs.slice 0 rfl
                  have hs := hs.add (it := vl (tSlice tStr) x109.Elems (.slice a113 (x109.Elems).length c114)) fun ok hA => hA.get 0 rfl
                  exact WL.nil ⟨rfl, _, rfl, ⟨(a113, c114), rfl⟩, hs.cutG 1 2⟩
                · intro ρ w Γx Λx hs hu hp
                  refine WL.move (v := .int .i64 x78) ((hu 9 rfl).trans h77_9) ?_
                  exact WL.nil ⟨rfl, _, rfl, rfl, hs.cutG 0 0⟩
                · intro ρ w Γx Λx hs hu hp
                  have e151 : ρ 98 = .int .i64 x78 := (hp 15 rfl).1
                  refine WL.bin (v := .int .i64 x115) e151 rfl (ib_as ex115 (ib_sub _ _ _)) ?_
                  exact WL.nil ⟨rfl, _, rfl, rfl, hs.cutG 0 0⟩
                · intro ρ w Γx Λx hs hu hp
                  obtain ⟨⟨⟨a152, c153⟩, e154r⟩, hm155⟩ := hp 14 rfl
                  have e154 : ρ 97 = .slice a152 (x109.Elems).length c153 := e154r
                  rw [e154r] at hm155
                  have hs := hs.memo1 (it := vl (tSlice tStr) x109.Elems (.slice a152 (x109.Elems).length c153)) (List.mem_append.2 (.inl (hm155 _ (List.mem_of_getElem? (i := 0) rfl))))
                  have e156 : ρ 99 = .int .i64 x115 := (hp 16 rfl).1
                  refine WL.indexAddr hs 0 rfl UN55 TI9 e154 e156 hxx116 (fun ad117 hs => ?_)
                  have hs := hs.add (it := pl tStr x116 ad117) fun ok hA => hA.get 0 rfl
                  exact WL.nil ⟨rfl, _, rfl, ⟨ad117, rfl⟩, hs.cutG 1 2⟩
                · intro ρ w Γx Λx hs hu hp
                  obtain ⟨⟨ad157, e158r⟩, hm159⟩ := hp 17 rfl
                  have e158 : ρ 100 = .pointer (some ad157) := e158r
                  rw [e158r] at hm159
                  have hs := hs.memo1 (it := pl tStr x116 ad157) (List.mem_append.2 (.inl (hm159 _ (List.mem_of_getElem? (i := 0) rfl))))
                  refine WL.loadP hs 0 rfl TI9 (.inr rfl) e158 (fun v118 hs => ?_)
                  obtain rfl := hs.str 0 rfl
                  exact WL.nil ⟨rfl, _, rfl, rfl, hs.cutG 0 2⟩
                · intro ρ w Γx Λx hs hu hp
                  have e160 : ρ 91 = bstr x103 := (hp 8 rfl).1
                  have e161 : ρ 101 = bstr x116 := (hp 18 rfl).1
                  refine WL.binS (v := .bool ((Op.bytesLess x103 x116 || x103 == x116))) e160 e161 (sb_leq _ _) ?_
                  exact WL.nil ⟨rfl, _, rfl, rfl, hs.cutG 0 0⟩
                · intro ρ w hs hu162 hp
                  obtain ⟨⟨⟨⟨⟨⟨⟨⟨⟨⟨⟨⟨⟨⟨⟨⟨⟨⟨⟨⟨_, hp0_⟩, hp1_⟩, hp2_⟩, hp3_⟩, hp4_⟩, hp5_⟩, hp6_⟩, hp7_⟩, hp8_⟩, hp9_⟩, hp10_⟩, hp11_⟩, hp12_⟩, hp13_⟩, hp14_⟩, hp15_⟩, hp16_⟩, hp17_⟩, hp18_⟩, hp19_⟩ := hp
                  have hs : St ok (bz w0) w [pl tStr x116 (adOf (ρ 100)), vl (tSlice tStr) x109.Elems (ρ 97), pl (tSlice tStr) x109.Elems (adOf (ρ 96)), pl t_fold_Field x109 (adOf (ρ 95)), vl (tSlice t_fold_Field) x42.Fields (ρ 93), pl tStr x103 (adOf (ρ 90)), vl (tSlice tStr) x97.Elems (ρ 88), pl (tSlice tStr) x97.Elems (adOf (ρ 87)), pl t_fold_Field x97 (adOf (ρ 86)), vl (tSlice t_fold_Field) x42.Fields (ρ 84), vl (tSlice tStr) x85.Elems (.slice a89 (x85.Elems).length c90), pl (tSlice tStr) x85.Elems ad87, pl t_fold_Field x85 ad86, vl (tSlice t_fold_Field) x42.Fields (.slice a83 (x42.Fields).length c84), vl t_fold_Object x42 (.agg cs45.toArray), vl t_fold_Store x15 (.agg cs16.toArray)] [blk g47 51 cs45, blk g18 29 cs16] := hs
                  have e163 : ρ 102 = .bool ((Op.bytesLess x103 x116 || x103 == x116)) := hp19_
                  have e164 : ρ 101 = bstr x116 := hp18_
                  obtain ⟨ad165, e166⟩ := hp17_
                  have e166 : ρ 100 = .pointer (some ad165) := e166
                  try rw [e166] at hs
                  have e167 : ρ 99 = .int .i64 x115 := hp16_
                  have e168 : ρ 98 = .int .i64 x78 := hp15_
                  obtain ⟨⟨a169, c170⟩, e171⟩ := hp14_
                  have e171 : ρ 97 = .slice a169 (x109.Elems).length c170 := e171
                  try rw [e171] at hs
                  obtain ⟨ad172, e173⟩ := hp13_
                  have e173 : ρ 96 = .pointer (some ad172) := e173
                  try rw [e173] at hs
                  obtain ⟨ad174, e175⟩ := hp12_
                  have e175 : ρ 95 = .pointer (some ad174) := e175
                  try rw [e175] at hs
                  have e176 : ρ 94 = .int .i64 x57 := hp11_
                  obtain ⟨⟨a177, c178⟩, e179⟩ := hp10_
                  have e179 : ρ 93 = .slice a177 (x42.Fields).length c178 := e179
                  try rw [e179] at hs
                  have e180 : ρ 92 = .pointer (some ⟨g47, 1, none⟩) := hp9_
                  have e181 : ρ 91 = bstr x103 := hp8_
                  obtain ⟨ad182, e183⟩ := hp7_
                  have e183 : ρ 90 = .pointer (some ad182) := e183
                  try rw [e183] at hs
                  have e184 : ρ 89 = .int .i64 x78 := hp6_
                  obtain ⟨⟨a185, c186⟩, e187⟩ := hp5_
                  have e187 : ρ 88 = .slice a185 (x97.Elems).length c186 := e187
                  try rw [e187] at hs
                  obtain ⟨ad188, e189⟩ := hp4_
                  have e189 : ρ 87 = .pointer (some ad188) := e189
                  try rw [e189] at hs
                  obtain ⟨ad190, e191⟩ := hp3_
                  have e191 : ρ 86 = .pointer (some ad190) := e191
                  try rw [e191] at hs
                  have e192 : ρ 85 = .int .i64 x57 := hp2_
                  obtain ⟨⟨a193, c194⟩, e195⟩ := hp1_
                  have e195 : ρ 84 = .slice a193 (x42.Fields).length c194 := e195
                  try rw [e195] at hs
                  have e196 : ρ 83 = .pointer (some ⟨g47, 1, none⟩) := hp0_
                  refine WA.done (by kernel_rfl) ?_
                  refine hK93 _ _ ?_
                  rcases iteE hf with ⟨hc197, hf⟩ | ⟨hc197, hf⟩
                  · refine W.cond_true (bool_tr e163 hc197) ?_
                    refine W.seqK fun K198 hK198 => ?_
                    refine W.region ?_
                    refine WL.assign (v := .bool false) rfl ?_
                    refine WL.nil ?_
                    refine hK198 _ _ ?_
                    refine W.ret ?_
                    have hr := Option.some.inj hf; subst hr
                    have hr := hbbs79 _ rfl; subst hr
                    have hf := hfs79
                    have hr := Option.some.inj hf; subst hr
                    have hr := hbbs58 _ rfl; subst hr
                    have hf := hfs58
                    have hr := Option.some.inj hf; subst hr
                    have hr := hbbs27 _ rfl; subst hr
                    have hf := hfs27
                    have hr := Option.some.inj hf; subst hr
                    exact ⟨_, resOk_one rfl rfl, (), rfl, (hs.mask []).pick []⟩
                  · refine W.cond_false (bool_tr e163 hc197) ?_
                    refine W.skip ?_
                    refine hK92 _ _ ?_
                    refine W.region ?_
                    refine WL.move (v := .int .i64 x78) ((hu162 9 rfl).trans h77_9) ?_
                    obtain ⟨x199, ex199, hf⟩ := letE hf
                    refine WL.bin (v := .int .i64 x199) rfl rfl (ib_as ex199 (ib_add _ _ _)) ?_
                    refine WL.assign (v := .int .i64 x199) rfl ?_
                    refine WL.nil ?_
                    exact ⟨_, (Option.some.inj hf).symm, ((hu162 5 rfl).trans h77_5), ((hu162 6 rfl).trans h77_6), ((hu162 7 rfl).trans h77_7), ((hu162 8 rfl).trans h77_8), rfl, (hs.mask [true, true]).pick [14, 15]⟩
              · refine W.cond_false (bool_tr rfl hc91) ?_
                refine W.exit ?_
                have hr := Option.some.inj hf; subst hr
                have hr := hbbs79 _ rfl; subst hr
                have hf := hfs79
                exact Jk67  _ _ h77_5 h77_6 h77_7 h77_8 ((hs.mask [true, true]).pick [4, 5]) hf
          rcases iteE hf with ⟨hc201, hf⟩ | ⟨hc201, hf⟩
          · obtain ⟨x205, hxx205, hf⟩ := bindE hf
            obtain ⟨x212, ex212, hf⟩ := letE hf
            obtain ⟨x213, hxx213, hf⟩ := bindE hf
            refine W.any (by kernel_rfl) 18 0 [true, true, true, true, true, true, true, true, true, true, true, true, true, true, true, true, true, true] rfl rfl (poAt [pv (.int .i64 x57), pv (.bool (decide (0 < x57))), pv (.bool (decide (0 < x57))), pv (.pointer (some ⟨g47, 1, none⟩)), pq (fun y : (Option Addr × Nat) => .slice y.1 (x42.Fields).length y.2) (fun v => [vl (tSlice t_fold_Field) x42.Fields v]) (fun v => []), pv (.int .i64 x57), pq (fun y : Addr => .pointer (some y)) (fun v => [pl t_fold_Field x205 (adOf v)]) (fun v => []), pq (fun y : Addr => .pointer (some y)) (fun v => [pl tStr x205.Name (adOf v)]) (fun v => []), pv (bstr x205.Name), pv (.pointer (some ⟨g47, 1, none⟩)), pq (fun y : (Option Addr × Nat) => .slice y.1 (x42.Fields).length y.2) (fun v => [vl (tSlice t_fold_Field) x42.Fields v]) (fun v => []), pv (.int .i64 x57), pv (.int .i64 x212), pq (fun y : Addr => .pointer (some y)) (fun v => [pl t_fold_Field x213 (adOf v)]) (fun v => []), pq (fun y : Addr => .pointer (some y)) (fun v => [pl tStr x213.Name (adOf v)]) (fun v => []), pv (bstr x213.Name), pv (.bool ((Op.bytesLess x205.Name x213.Name || x205.Name == x213.Name))), pv (.bool ((Op.bytesLess x205.Name x213.Name || x205.Name == x213.Name)))]) (Λ := [blk g47 51 cs45, blk g18 29 cs16]) hs (by kernel_rfl) (by kernel_rfl) (by kernel_rfl) ⟨⟨⟨⟨⟨⟨⟨⟨⟨⟨⟨⟨⟨⟨⟨⟨⟨⟨trivial, ?_⟩, ?_⟩, ?_⟩, ?_⟩, ?_⟩, ?_⟩, ?_⟩, ?_⟩, ?_⟩, ?_⟩, ?_⟩, ?_⟩, ?_⟩, ?_⟩, ?_⟩, ?_⟩, ?_⟩, ?_⟩ ?_
            · intro ρ w Γx Λx hs hu hp
              refine WL.move (v := .int .i64 x57) ((hu 8 rfl).trans h56_8) ?_
              exact WL.nil ⟨rfl, _, rfl, rfl, hs.cutG 0 0⟩
            · intro ρ w Γx Λx hs hu hp
              have e217 : ρ 54 = .int .i64 x57 := (hp 0 rfl).1
              refine WL.bin (v := .bool (decide (0 < x57))) e217 rfl (ib_gtr _ _ _) ?_
              exact WL.nil ⟨rfl, _, rfl, rfl, hs.cutG 0 0⟩
            · intro ρ w Γx Λx hs hu hp
              have e218 : ρ 55 = .bool (decide (0 < x57)) := (hp 1 rfl).1
              refine WL.move (v := .bool (decide (0 < x57))) e218 ?_
              exact WL.nil ⟨rfl, _, rfl, rfl, hs.cutG 0 0⟩
            · intro ρ w Γx Λx hs hu hp
              have e219 : ρ 56 = .bool (decide (0 < x57)) := (hp 2 rfl).1
              refine WL.fieldAddr (m := 1) ((hu 7 rfl).trans h56_7) FA51_1 rfl ?_ (hg := (wanted_of rfl rfl (bool_tr e219 hc201)).trans rfl)
              exact WL.nil ⟨rfl, _, rfl, rfl, hs.cutG 0 0⟩
            · intro ρ w Γx Λx hs hu hp
              have e220 : ρ 57 = .pointer (some ⟨g47, 1, none⟩) := (hp 3 rfl).1
              have e221 : ρ 56 = .bool (decide (0 < x57)) := (hp 2 rfl).1
              refine WL.loadF (z := x42.Fields) F_fold_Object_Fields hs (Λx.length + 0) (getApp rfl) (Γx.length + 1) (getApp rfl) rfl TI49 (.inr rfl) e220 rfl (fun v202 hs => ?_) (hg := (wanted_of rfl rfl (bool_tr e221 hc201)).trans rfl)
              obtain ⟨a203, c204, rfl⟩ := hs.slice 0 rfl
              have hs := hs.add (it := vl (tSlice t_fold_Field) x42.Fields (.slice a203 (x42.Fields).length c204)) fun ok hA => hA.get 0 rfl
              exact WL.nil ⟨rfl, _, rfl, ⟨(a203, c204), rfl⟩, hs.cutG 1 1⟩
            · intro ρ w Γx Λx hs hu hp
              have e222 : ρ 56 = .bool (decide (0 < x57)) := (hp 2 rfl).1
              refine WL.move (v := .int .i64 x57) ((hu 8 rfl).trans h56_8) ?_ (hg := (wanted_of rfl rfl (bool_tr e222 hc201)).trans rfl)
              exact WL.nil ⟨rfl, _, rfl, rfl, hs.cutG 0 0⟩
            · intro ρ w Γx Λx hs hu hp
              obtain ⟨⟨⟨a223, c224⟩, e225r⟩, hm226⟩ := hp 4 rfl
              have e225 : ρ 58 = .slice a223 (x42.Fields).length c224 := e225r
              rw [e225r] at hm226
              have hs := hs.memo1 (it := vl (tSlice t_fold_Field) x42.Fields (.slice a223 (x42.Fields).length c224)) (List.mem_append.2 (.inl (hm226 _ (List.mem_of_getElem? (i := 0) rfl))))
              have e227 : ρ 59 = .int .i64 x57 := (hp 5 rfl).1
              have e228 : ρ 56 = .bool (decide (0 < x57)) := (hp 2 rfl).1
              refine WL.indexAddr hs 0 rfl UN49 TI57 e225 e227 hxx205 (fun ad206 hs => ?_) (hg := (wanted_of rfl rfl (bool_tr e228 hc201)).trans rfl)
              have hs := hs.add (it := pl t_fold_Field x205 ad206) fun ok hA => hA.get 0 rfl
              exact WL.nil ⟨rfl, _, rfl, ⟨ad206, rfl⟩, hs.cutG 1 2⟩
            · intro ρ w Γx Λx hs hu hp
              obtain ⟨⟨ad229, e230r⟩, hm231⟩ := hp 6 rfl
              have e230 : ρ 60 = .pointer (some ad229) := e230r
              rw [e230r] at hm231
              have hs := hs.memo1 (it := pl t_fold_Field x205 ad229) (List.mem_append.2 (.inl (hm231 _ (List.mem_of_getElem? (i := 0) rfl))))
              have e232 : ρ 56 = .bool (decide (0 < x57)) := (hp 2 rfl).1
              refine WL.fieldAddrP (z := x205.Name) F_fold_Field_Name hs 0 rfl e230 FA57_0 rfl (fun ad207 hs => ?_) (hg := (wanted_of rfl rfl (bool_tr e232 hc201)).trans rfl)
              have hs := hs.add (it := pl tStr x205.Name ad207) fun ok hA => hA.get 0 rfl
              exact WL.nil ⟨rfl, _, rfl, ⟨ad207, rfl⟩, hs.cutG 1 2⟩
            · intro ρ w Γx Λx hs hu hp
              obtain ⟨⟨ad233, e234r⟩, hm235⟩ := hp 7 rfl
              have e234 : ρ 61 = .pointer (some ad233) := e234r
              rw [e234r] at hm235
              have hs := hs.memo1 (it := pl tStr x205.Name ad233) (List.mem_append.2 (.inl (hm235 _ (List.mem_of_getElem? (i := 0) rfl))))
              have e236 : ρ 56 = .bool (decide (0 < x57)) := (hp 2 rfl).1
              refine WL.loadP hs 0 rfl TI9 (.inr rfl) e234 (fun v208 hs => ?_) (hg := (wanted_of rfl rfl (bool_tr e236 hc201)).trans rfl)
              obtain rfl := hs.str 0 rfl
              exact WL.nil ⟨rfl, _, rfl, rfl, hs.cutG 0 2⟩
            · intro ρ w Γx Λx hs hu hp
              have e237 : ρ 56 = .bool (decide (0 < x57)) := (hp 2 rfl).1
              refine WL.fieldAddr (m := 1) ((hu 7 rfl).trans h56_7) FA51_1 rfl ?_ (hg := (wanted_of rfl rfl (bool_tr e237 hc201)).trans rfl)
              exact WL.nil ⟨rfl, _, rfl, rfl, hs.cutG 0 0⟩
            · intro ρ w Γx Λx hs hu hp
              have e238 : ρ 63 = .pointer (some ⟨g47, 1, none⟩) := (hp 9 rfl).1
              have e239 : ρ 56 = .bool (decide (0 < x57)) := (hp 2 rfl).1
              refine WL.loadF (z := x42.Fields) F_fold_Object_Fields hs (Λx.length + 0) (getApp rfl) (Γx.length + 1) (getApp rfl) rfl TI49 (.inr rfl) e238 rfl (fun v209 hs => ?_) (hg := (wanted_of rfl rfl (bool_tr e239 hc201)).trans rfl)
              obtain ⟨a210, c211, rfl⟩ := hs.slice 0 rfl
              have hs := hs.add (it := vl (tSlice t_fold_Field) x42.Fields (.slice a210 (x42.Fields).length c211)) fun ok hA => hA.get 0 rfl
              exact WL.nil ⟨rfl, _, rfl, ⟨(a210, c211), rfl⟩, hs.cutG 1 1⟩
            · intro ρ w Γx Λx hs hu hp
              have e240 : ρ 56 = .bool (decide (0 < x57)) := (hp 2 rfl).1
              refine WL.move (v := .int .i64 x57) ((hu 8 rfl).trans h56_8) ?_ (hg := (wanted_of rfl rfl (bool_tr e240 hc201)).trans rfl)
              exact WL.nil ⟨rfl, _, rfl, rfl, hs.cutG 0 0⟩
            · intro ρ w Γx Λx hs hu hp
              have e241 : ρ 65 = .int .i64 x57 := (hp 11 rfl).1
              have e242 : ρ 56 = .bool (decide (0 < x57)) := (hp 2 rfl).1
              refine WL.bin (v := .int .i64 x212) e241 rfl (ib_as ex212 (ib_sub _ _ _)) ?_ (hg := (wanted_of rfl rfl (bool_tr e242 hc201)).trans rfl)
              exact WL.nil ⟨rfl, _, rfl, rfl, hs.cutG 0 0⟩
            · intro ρ w Γx Λx hs hu hp
              obtain ⟨⟨⟨a243, c244⟩, e245r⟩, hm246⟩ := hp 10 rfl
              have e245 : ρ 64 = .slice a243 (x42.Fields).length c244 := e245r
              rw [e245r] at hm246
              have hs := hs.memo1 (it := vl (tSlice t_fold_Field) x42.Fields (.slice a243 (x42.Fields).length c244)) (List.mem_append.2 (.inl (hm246 _ (List.mem_of_getElem? (i := 0) rfl))))
              have e247 : ρ 66 = .int .i64 x212 := (hp 12 rfl).1
              have e248 : ρ 56 = .bool (decide (0 < x57)) := (hp 2 rfl).1
              refine WL.indexAddr hs 0 rfl UN49 TI57 e245 e247 hxx213 (fun ad214 hs => ?_) (hg := (wanted_of rfl rfl (bool_tr e248 hc201)).trans rfl)
              have hs := hs.add (it := pl t_fold_Field x213 ad214) fun ok hA => hA.get 0 rfl
              exact WL.nil ⟨rfl, _, rfl, ⟨ad214, rfl⟩, hs.cutG 1 2⟩
            · intro ρ w Γx Λx hs hu hp
              obtain ⟨⟨ad249, e250r⟩, hm251⟩ := hp 13 rfl
              have e250 : ρ 67 = .pointer (some ad249) := e250r
              rw [e250r] at hm251
              have hs := hs.memo1 (it := pl t_fold_Field x213 ad249) (List.mem_append.2 (.inl (hm251 _ (List.mem_of_getElem? (i := 0) rfl))))
              have e252 : ρ 56 = .bool (decide (0 < x57)) := (hp 2 rfl).1
              refine WL.fieldAddrP (z := x213.Name) F_fold_Field_Name hs 0 rfl e250 FA57_0 rfl (fun ad215 hs => ?_) (hg := (wanted_of rfl rfl (bool_tr e252 hc201)).trans rfl)
              have hs := hs.add (it := pl tStr x213.Name ad215) fun ok hA => hA.get 0 rfl
              exact WL.nil ⟨rfl, _, rfl, ⟨ad215, rfl⟩, hs.cutG 1 2⟩
            · intro ρ w Γx Λx hs hu hp
              obtain ⟨⟨ad253, e254r⟩, hm255⟩ := hp 14 rfl
              have e254 : ρ 68 = .pointer (some ad253) := e254r
              rw [e254r] at hm255
              have hs := hs.memo1 (it := pl tStr x213.Name ad253) (List.mem_append.2 (.inl (hm255 _ (List.mem_of_getElem? (i := 0) rfl))))
              have e256 : ρ 56 = .bool (decide (0 < x57)) := (hp 2 rfl).1
              refine WL.loadP hs 0 rfl TI9 (.inr rfl) e254 (fun v216 hs => ?_) (hg := (wanted_of rfl rfl (bool_tr e256 hc201)).trans rfl)
              obtain rfl := hs.str 0 rfl
              exact WL.nil ⟨rfl, _, rfl, rfl, hs.cutG 0 2⟩
            · intro ρ w Γx Λx hs hu hp
              have e257 : ρ 62 = bstr x205.Name := (hp 8 rfl).1
              have e258 : ρ 69 = bstr x213.Name := (hp 15 rfl).1
              have e259 : ρ 56 = .bool (decide (0 < x57)) := (hp 2 rfl).1
              refine WL.binS (v := .bool ((Op.bytesLess x205.Name x213.Name || x205.Name == x213.Name))) e257 e258 (sb_leq _ _) ?_ (hg := (wanted_of rfl rfl (bool_tr e259 hc201)).trans rfl)
              exact WL.nil ⟨rfl, _, rfl, rfl, hs.cutG 0 0⟩
            · intro ρ w Γx Λx hs hu hp
              have e260 : ρ 56 = .bool (decide (0 < x57)) := (hp 2 rfl).1
              have e261 : ρ 70 = .bool ((Op.bytesLess x205.Name x213.Name || x205.Name == x213.Name)) := (hp 16 rfl).1
              refine WL.pickT (v := .bool ((Op.bytesLess x205.Name x213.Name || x205.Name == x213.Name))) (bool_tr e260 hc201) e261 ?_
              exact WL.nil ⟨rfl, _, rfl, rfl, hs.cutG 0 0⟩
            · intro ρ w hs hu262 hp
              obtain ⟨⟨⟨⟨⟨⟨⟨⟨⟨⟨⟨⟨⟨⟨⟨⟨⟨⟨_, hp0_⟩, hp1_⟩, hp2_⟩, hp3_⟩, hp4_⟩, hp5_⟩, hp6_⟩, hp7_⟩, hp8_⟩, hp9_⟩, hp10_⟩, hp11_⟩, hp12_⟩, hp13_⟩, hp14_⟩, hp15_⟩, hp16_⟩, hp17_⟩ := hp
              have hs : St ok (bz w0) w [pl tStr x213.Name (adOf (ρ 68)), pl t_fold_Field x213 (adOf (ρ 67)), vl (tSlice t_fold_Field) x42.Fields (ρ 64), pl tStr x205.Name (adOf (ρ 61)), pl t_fold_Field x205 (adOf (ρ 60)), vl (tSlice t_fold_Field) x42.Fields (ρ 58), vl (tSlice t_fold_Field) x42.Fields (.slice a62 (x42.Fields).length c63), vl t_fold_Object x42 (.agg cs45.toArray), vl t_fold_Store x15 (.agg cs16.toArray)] [blk g47 51 cs45, blk g18 29 cs16] := hs
              have e263 : ρ 71 = .bool ((Op.bytesLess x205.Name x213.Name || x205.Name == x213.Name)) := hp17_
              have e264 : ρ 70 = .bool ((Op.bytesLess x205.Name x213.Name || x205.Name == x213.Name)) := hp16_
              have e265 : ρ 69 = bstr x213.Name := hp15_
              obtain ⟨ad266, e267⟩ := hp14_
              have e267 : ρ 68 = .pointer (some ad266) := e267
              try rw [e267] at hs
              obtain ⟨ad268, e269⟩ := hp13_
              have e269 : ρ 67 = .pointer (some ad268) := e269
              try rw [e269] at hs
              have e270 : ρ 66 = .int .i64 x212 := hp12_
              have e271 : ρ 65 = .int .i64 x57 := hp11_
              obtain ⟨⟨a272, c273⟩, e274⟩ := hp10_
              have e274 : ρ 64 = .slice a272 (x42.Fields).length c273 := e274
              try rw [e274] at hs
              have e275 : ρ 63 = .pointer (some ⟨g47, 1, none⟩) := hp9_
              have e276 : ρ 62 = bstr x205.Name := hp8_
              obtain ⟨ad277, e278⟩ := hp7_
              have e278 : ρ 61 = .pointer (some ad277) := e278
              try rw [e278] at hs
              obtain ⟨ad279, e280⟩ := hp6_
              have e280 : ρ 60 = .pointer (some ad279) := e280
              try rw [e280] at hs
              have e281 : ρ 59 = .int .i64 x57 := hp5_
              obtain ⟨⟨a282, c283⟩, e284⟩ := hp4_
              have e284 : ρ 58 = .slice a282 (x42.Fields).length c283 := e284
              try rw [e284] at hs
              have e285 : ρ 57 = .pointer (some ⟨g47, 1, none⟩) := hp3_
              have e286 : ρ 56 = .bool (decide (0 < x57)) := hp2_
              have e287 : ρ 55 = .bool (decide (0 < x57)) := hp1_
              have e288 : ρ 54 = .int .i64 x57 := hp0_
              refine WA.done (by kernel_rfl) ?_
              exact Jk73 ((Op.bytesLess x205.Name x213.Name || x205.Name == x213.Name)) _ _ ((hu262 5 rfl).trans h56_5) ((hu262 6 rfl).trans h56_6) ((hu262 7 rfl).trans h56_7) ((hu262 8 rfl).trans h56_8) e263 ((hs.mask [true, true]).pick [7, 8]) hf
          · refine W.any (by kernel_rfl) 18 0 [true, true, true, true, true, true, true, true, true, true, true, true, true, true, true, true, true, true] rfl rfl (poAt [pv (.int .i64 x57), pv (.bool (decide (0 < x57))), pv (.bool (decide (0 < x57))), pv (undef), pv (undef), pv (undef), pv (undef), pv (undef), pv (undef), pv (undef), pv (undef), pv (undef), pv (undef), pv (undef), pv (undef), pv (undef), pv (undef), pv (.bool false)]) (Λ := [blk g47 51 cs45, blk g18 29 cs16]) hs (by kernel_rfl) (by kernel_rfl) (by kernel_rfl) ⟨⟨⟨⟨⟨⟨⟨⟨⟨⟨⟨⟨⟨⟨⟨⟨⟨⟨trivial, ?_⟩, ?_⟩, ?_⟩, ?_⟩, ?_⟩, ?_⟩, ?_⟩, ?_⟩, ?_⟩, ?_⟩, ?_⟩, ?_⟩, ?_⟩, ?_⟩, ?_⟩, ?_⟩, ?_⟩, ?_⟩ ?_
            · intro ρ w Γx Λx hs hu hp
              refine WL.move (v := .int .i64 x57) ((hu 8 rfl).trans h56_8) ?_
              exact WL.nil ⟨rfl, _, rfl, rfl, hs.cutG 0 0⟩
            · intro ρ w Γx Λx hs hu hp
              have e289 : ρ 54 = .int .i64 x57 := (hp 0 rfl).1
              refine WL.bin (v := .bool (decide (0 < x57))) e289 rfl (ib_gtr _ _ _) ?_
              exact WL.nil ⟨rfl, _, rfl, rfl, hs.cutG 0 0⟩
            · intro ρ w Γx Λx hs hu hp
              have e290 : ρ 55 = .bool (decide (0 < x57)) := (hp 1 rfl).1
              refine WL.move (v := .bool (decide (0 < x57))) e290 ?_
              exact WL.nil ⟨rfl, _, rfl, rfl, hs.cutG 0 0⟩
            · intro ρ w Γx Λx hs hu hp
              have e291 : ρ 56 = .bool (decide (0 < x57)) := (hp 2 rfl).1
              refine WL.pass ((wanted_of rfl rfl (bool_tr e291 hc201)).trans rfl) rfl ?_
              exact WL.nil ⟨rfl, _, rfl, rfl, hs.cutG 0 0⟩
            · intro ρ w Γx Λx hs hu hp
              have e292 : ρ 57 = undef := (hp 3 rfl).1
              have e293 : ρ 56 = .bool (decide (0 < x57)) := (hp 2 rfl).1
              refine WL.pass ((wanted_of rfl rfl (bool_tr e293 hc201)).trans rfl) rfl ?_
              exact WL.nil ⟨rfl, _, rfl, rfl, hs.cutG 0 0⟩
            · intro ρ w Γx Λx hs hu hp
              have e294 : ρ 56 = .bool (decide (0 < x57)) := (hp 2 rfl).1
              refine WL.pass ((wanted_of rfl rfl (bool_tr e294 hc201)).trans rfl) rfl ?_
              exact WL.nil ⟨rfl, _, rfl, rfl, hs.cutG 0 0⟩
            · intro ρ w Γx Λx hs hu hp
              have e295 : ρ 58 = undef := (hp 4 rfl).1
              have e296 : ρ 59 = undef := (hp 5 rfl).1
              have e297 : ρ 56 = .bool (decide (0 < x57)) := (hp 2 rfl).1
              refine WL.pass ((wanted_of rfl rfl (bool_tr e297 hc201)).trans rfl) rfl ?_
              exact WL.nil ⟨rfl, _, rfl, rfl, hs.cutG 0 0⟩
            · intro ρ w Γx Λx hs hu hp
              have e298 : ρ 60 = undef := (hp 6 rfl).1
              have e299 : ρ 56 = .bool (decide (0 < x57)) := (hp 2 rfl).1
              refine WL.pass ((wanted_of rfl rfl (bool_tr e299 hc201)).trans rfl) rfl ?_
              exact WL.nil ⟨rfl, _, rfl, rfl, hs.cutG 0 0⟩
            · intro ρ w Γx Λx hs hu hp
              have e300 : ρ 61 = undef := (hp 7 rfl).1
              have e301 : ρ 56 = .bool (decide (0 < x57)) := (hp 2 rfl).1
              refine WL.pass ((wanted_of rfl rfl (bool_tr e301 hc201)).trans rfl) rfl ?_
              exact WL.nil ⟨rfl, _, rfl, rfl, hs.cutG 0 0⟩
            · intro ρ w Γx Λx hs hu hp
              have e302 : ρ 56 = .bool (decide (0 < x57)) := (hp 2 rfl).1
              refine WL.pass ((wanted_of rfl rfl (bool_tr e302 hc201)).trans rfl) rfl ?_
              exact WL.nil ⟨rfl, _, rfl, rfl, hs.cutG 0 0⟩
            · intro ρ w Γx Λx hs hu hp
              have e303 : ρ 63 = undef := (hp 9 rfl).1
              have e304 : ρ 56 = .bool (decide (0 < x57)) := (hp 2 rfl).1
              refine WL.pass ((wanted_of rfl rfl (bool_tr e304 hc201)).trans rfl) rfl ?_
              exact WL.nil ⟨rfl, _, rfl, rfl, hs.cutG 0 0⟩
            · intro ρ w Γx Λx hs hu hp
              have e305 : ρ 56 = .bool (decide (0 < x57)) := (hp 2 rfl).1
              refine WL.pass ((wanted_of rfl rfl (bool_tr e305 hc201)).trans rfl) rfl ?_
              exact WL.nil ⟨rfl, _, rfl, rfl, hs.cutG 0 0⟩
            · intro ρ w Γx Λx hs hu hp
              have e306 : ρ 65 = undef := (hp 11 rfl).1
              have e307 : ρ 56 = .bool (decide (0 < x57)) := (hp 2 rfl).1
              refine WL.pass ((wanted_of rfl rfl (bool_tr e307 hc201)).trans rfl) rfl ?_
              exact WL.nil ⟨rfl, _, rfl, rfl, hs.cutG 0 0⟩
            · intro ρ w Γx Λx hs hu hp
              have e308 : ρ 64 = undef := (hp 10 rfl).1
              have e309 : ρ 66 = undef := (hp 12 rfl).1
              have e310 : ρ 56 = .bool (decide (0 < x57)) := (hp 2 rfl).1
              refine WL.pass ((wanted_of rfl rfl (bool_tr e310 hc201)).trans rfl) rfl ?_
              exact WL.nil ⟨rfl, _, rfl, rfl, hs.cutG 0 0⟩
            · intro ρ w Γx Λx hs hu hp
              have e311 : ρ 67 = undef := (hp 13 rfl).1
              have e312 : ρ 56 = .bool (decide (0 < x57)) := (hp 2 rfl).1
              refine WL.pass ((wanted_of rfl rfl (bool_tr e312 hc201)).trans rfl) rfl ?_
              exact WL.nil ⟨rfl, _, rfl, rfl, hs.cutG 0 0⟩
            · intro ρ w Γx Λx hs hu hp
              have e313 : ρ 68 = undef := (hp 14 rfl).1
              have e314 : ρ 56 = .bool (decide (0 < x57)) := (hp 2 rfl).1
              refine WL.pass ((wanted_of rfl rfl (bool_tr e314 hc201)).trans rfl) rfl ?_
              exact WL.nil ⟨rfl, _, rfl, rfl, hs.cutG 0 0⟩
            · intro ρ w Γx Λx hs hu hp
              have e315 : ρ 62 = undef := (hp 8 rfl).1
              have e316 : ρ 69 = undef := (hp 15 rfl).1
              have e317 : ρ 56 = .bool (decide (0 < x57)) := (hp 2 rfl).1
              refine WL.pass ((wanted_of rfl rfl (bool_tr e317 hc201)).trans rfl) rfl ?_
              exact WL.nil ⟨rfl, _, rfl, rfl, hs.cutG 0 0⟩
            · intro ρ w Γx Λx hs hu hp
              have e318 : ρ 56 = .bool (decide (0 < x57)) := (hp 2 rfl).1
              have e319 : ρ 70 = undef := (hp 16 rfl).1
              refine WL.pickF (v := .bool false) (bool_tr e318 hc201) rfl ?_
              exact WL.nil ⟨rfl, _, rfl, rfl, hs.cutG 0 0⟩
            · intro ρ w hs hu320 hp
              obtain ⟨⟨⟨⟨⟨⟨⟨⟨⟨⟨⟨⟨⟨⟨⟨⟨⟨⟨_, hp0_⟩, hp1_⟩, hp2_⟩, hp3_⟩, hp4_⟩, hp5_⟩, hp6_⟩, hp7_⟩, hp8_⟩, hp9_⟩, hp10_⟩, hp11_⟩, hp12_⟩, hp13_⟩, hp14_⟩, hp15_⟩, hp16_⟩, hp17_⟩ := hp
              have hs : St ok (bz w0) w [vl (tSlice t_fold_Field) x42.Fields (.slice a62 (x42.Fields).length c63), vl t_fold_Object x42 (.agg cs45.toArray), vl t_fold_Store x15 (.agg cs16.toArray)] [blk g47 51 cs45, blk g18 29 cs16] := hs
              have e321 : ρ 71 = .bool false := hp17_
              have e322 : ρ 70 = undef := hp16_
              have e323 : ρ 69 = undef := hp15_
              have e324 : ρ 68 = undef := hp14_
              have e325 : ρ 67 = undef := hp13_
              have e326 : ρ 66 = undef := hp12_
              have e327 : ρ 65 = undef := hp11_
              have e328 : ρ 64 = undef := hp10_
              have e329 : ρ 63 = undef := hp9_
              have e330 : ρ 62 = undef := hp8_
              have e331 : ρ 61 = undef := hp7_
              have e332 : ρ 60 = undef := hp6_
              have e333 : ρ 59 = undef := hp5_
              have e334 : ρ 58 = undef := hp4_
              have e335 : ρ 57 = undef := hp3_
              have e336 : ρ 56 = .bool (decide (0 < x57)) := hp2_
              have e337 : ρ 55 = .bool (decide (0 < x57)) := hp1_
              have e338 : ρ 54 = .int .i64 x57 := hp0_
              refine WA.done (by kernel_rfl) ?_
              exact Jk73 false _ _ ((hu320 5 rfl).trans h56_5) ((hu320 6 rfl).trans h56_6) ((hu320 7 rfl).trans h56_7) ((hu320 8 rfl).trans h56_8) e321 ((hs.mask [true, true]).pick [1, 2]) hf
        · refine W.cond_false (bool_tr rfl hc64) ?_
          refine W.exit ?_
          have hr := Option.some.inj hf; subst hr
          have hr := hbbs58 _ rfl; subst hr
          have hf := hfs58
          exact Jk36  _ _ h56_5 h56_6 ((hs.mask [false, true]).pick [2]) hf
    rcases iteE hf with ⟨hc340, hf⟩ | ⟨hc340, hf⟩
    · obtain ⟨x345, ex345, hf⟩ := letE hf
      obtain ⟨x346, hxx346, hf⟩ := bindE hf
      rcases iteE hf with ⟨hc350, hf⟩ | ⟨hc350, hf⟩
      · refine W.any (by kernel_rfl) 20 0 [true, true, true, true, true, true, true, true, true, true, true, true, true, true, true, true, true, true, true, true] rfl rfl (poAt [pv (.int .i64 x26), pv (.bool (decide (0 < x26))), pv (.bool (decide (0 < x26))), pv (.pointer (some ⟨g47, 0, none⟩)), pv (bstr x42.Name), pv (.pointer (some ⟨g18, 0, none⟩)), pq (fun y : (Option Addr × Nat) => .slice y.1 (x15.Objects).length y.2) (fun v => [vl (tSlice t_fold_Object) x15.Objects v]) (fun v => []), pv (.int .i64 x26), pv (.int .i64 x345), pq (fun y : Addr => .pointer (some y)) (fun v => [pl t_fold_Object x346 (adOf v)]) (fun v => []), pq (fun y : Addr => .pointer (some y)) (fun v => [pl tStr x346.Name (adOf v)]) (fun v => []), pv (bstr x346.Name), pv (.bool ((Op.bytesLess x42.Name x346.Name || x42.Name == x346.Name))), pv (.bool ((Op.bytesLess x42.Name x346.Name || x42.Name == x346.Name))), pv (.bool ((Op.bytesLess x42.Name x346.Name || x42.Name == x346.Name))), pv (undef), pv (undef), pv (undef), pv (undef), pv (.bool true)]) (Λ := [blk g47 51 cs45, blk g18 29 cs16]) hs (by kernel_rfl) (by kernel_rfl) (by kernel_rfl) ⟨⟨⟨⟨⟨⟨⟨⟨⟨⟨⟨⟨⟨⟨⟨⟨⟨⟨⟨⟨trivial, ?_⟩, ?_⟩, ?_⟩, ?_⟩, ?_⟩, ?_⟩, ?_⟩, ?_⟩, ?_⟩, ?_⟩, ?_⟩, ?_⟩, ?_⟩, ?_⟩, ?_⟩, ?_⟩, ?_⟩, ?_⟩, ?_⟩, ?_⟩ ?_
        · intro ρ w Γx Λx hs hu hp
          refine WL.move (v := .int .i64 x26) ((hu 6 rfl).trans h25_6) ?_
          exact WL.nil ⟨rfl, _, rfl, rfl, hs.cutG 0 0⟩
        · intro ρ w Γx Λx hs hu hp
          have e351 : ρ 27 = .int .i64 x26 := (hp 0 rfl).1
          refine WL.bin (v := .bool (decide (0 < x26))) e351 rfl (ib_gtr _ _ _) ?_
          exact WL.nil ⟨rfl, _, rfl, rfl, hs.cutG 0 0⟩
        · intro ρ w Γx Λx hs hu hp
          have e352 : ρ 28 = .bool (decide (0 < x26)) := (hp 1 rfl).1
          refine WL.move (v := .bool (decide (0 < x26))) e352 ?_
          exact WL.nil ⟨rfl, _, rfl, rfl, hs.cutG 0 0⟩
        · intro ρ w Γx Λx hs hu hp
          have e353 : ρ 29 = .bool (decide (0 < x26)) := (hp 2 rfl).1
          refine WL.fieldAddr (m := 0) (hu 7 rfl) FA51_0 rfl ?_ (hg := (wanted_of rfl rfl (bool_tr e353 hc340)).trans rfl)
          exact WL.nil ⟨rfl, _, rfl, rfl, hs.cutG 0 0⟩
        · intro ρ w Γx Λx hs hu hp
          have e354 : ρ 30 = .pointer (some ⟨g47, 0, none⟩) := (hp 3 rfl).1
          have e355 : ρ 29 = .bool (decide (0 < x26)) := (hp 2 rfl).1
          refine WL.loadF (z := x42.Name) F_fold_Object_Name hs (Λx.length + 0) (getApp rfl) (Γx.length + 0) (getApp rfl) rfl TI9 (.inr rfl) e354 rfl (fun v341 hs => ?_) (hg := (wanted_of rfl rfl (bool_tr e355 hc340)).trans rfl)
          obtain rfl := hs.str 0 rfl
          exact WL.nil ⟨rfl, _, rfl, rfl, hs.cutG 0 1⟩
        · intro ρ w Γx Λx hs hu hp
          have e356 : ρ 29 = .bool (decide (0 < x26)) := (hp 2 rfl).1
          refine WL.fieldAddr (m := 0) ((hu 5 rfl).trans h25_5) FA29_0 rfl ?_ (hg := (wanted_of rfl rfl (bool_tr e356 hc340)).trans rfl)
          exact WL.nil ⟨rfl, _, rfl, rfl, hs.cutG 0 0⟩
        · intro ρ w Γx Λx hs hu hp
          have e357 : ρ 32 = .pointer (some ⟨g18, 0, none⟩) := (hp 5 rfl).1
          have e358 : ρ 29 = .bool (decide (0 < x26)) := (hp 2 rfl).1
          refine WL.loadF (z := x15.Objects) F_fold_Store_Objects hs (Λx.length + 1) (getApp rfl) (Γx.length + 4) (getApp rfl) rfl TI27 (.inr rfl) e357 rfl (fun v342 hs => ?_) (hg := (wanted_of rfl rfl (bool_tr e358 hc340)).trans rfl)
          obtain ⟨a343, c344, rfl⟩ := hs.slice 0 rfl
          have hs := hs.add (it := vl (tSlice t_fold_Object) x15.Objects (.slice a343 (x15.Objects).length c344)) fun ok hA => hA.get 0 rfl
          exact WL.nil ⟨rfl, _, rfl, ⟨(a343, c344), rfl⟩, hs.cutG 1 1⟩
        · intro ρ w Γx Λx hs hu hp
          have e359 : ρ 29 = .bool (decide (0 < x26)) := (hp 2 rfl).1
          refine WL.move (v := .int .i64 x26) ((hu 6 rfl).trans h25_6) ?_ (hg := (wanted_of rfl rfl (bool_tr e359 hc340)).trans rfl)
          exact WL.nil ⟨rfl, _, rfl, rfl, hs.cutG 0 0⟩
        · intro ρ w Γx Λx hs hu hp
          have e360 : ρ 34 = .int .i64 x26 := (hp 7 rfl).1
          have e361 : ρ 29 = .bool (decide (0 < x26)) := (hp 2 rfl).1
          refine WL.bin (v := .int .i64 x345) e360 rfl (ib_as ex345 (ib_sub _ _ _)) ?_ (hg := (wanted_of rfl rfl (bool_tr e361 hc340)).trans rfl)
          exact WL.nil ⟨rfl, _, rfl, rfl, hs.cutG 0 0⟩
        · intro ρ w Γx Λx hs hu hp
          obtain ⟨⟨⟨a362, c363⟩, e364r⟩, hm365⟩ := hp 6 rfl
          have e364 : ρ 33 = .slice a362 (x15.Objects).length c363 := e364r
          rw [e364r] at hm365
          have hs := hs.memo1 (it := vl (tSlice t_fold_Object) x15.Objects (.slice a362 (x15.Objects).length c363)) (List.mem_append.2 (.inl (hm365 _ (List.mem_of_getElem? (i := 0) rfl))))
          have e366 : ρ 35 = .int .i64 x345 := (hp 8 rfl).1
          have e367 : ρ 29 = .bool (decide (0 < x26)) := (hp 2 rfl).1
          refine WL.indexAddr hs 0 rfl UN27 TI51 e364 e366 hxx346 (fun ad347 hs => ?_) (hg := (wanted_of rfl rfl (bool_tr e367 hc340)).trans rfl)
          have hs := hs.add (it := pl t_fold_Object x346 ad347) fun ok hA => hA.get 0 rfl
          exact WL.nil ⟨rfl, _, rfl, ⟨ad347, rfl⟩, hs.cutG 1 2⟩
        · intro ρ w Γx Λx hs hu hp
          obtain ⟨⟨ad368, e369r⟩, hm370⟩ := hp 9 rfl
          have e369 : ρ 36 = .pointer (some ad368) := e369r
          rw [e369r] at hm370
          have hs := hs.memo1 (it := pl t_fold_Object x346 ad368) (List.mem_append.2 (.inl (hm370 _ (List.mem_of_getElem? (i := 0) rfl))))
          have e371 : ρ 29 = .bool (decide (0 < x26)) := (hp 2 rfl).1
          refine WL.fieldAddrP (z := x346.Name) F_fold_Object_Name hs 0 rfl e369 FA51_0 rfl (fun ad348 hs => ?_) (hg := (wanted_of rfl rfl (bool_tr e371 hc340)).trans rfl)
          have hs := hs.add (it := pl tStr x346.Name ad348) fun ok hA => hA.get 0 rfl
          exact WL.nil ⟨rfl, _, rfl, ⟨ad348, rfl⟩, hs.cutG 1 2⟩
        · intro ρ w Γx Λx hs hu hp
          obtain ⟨⟨ad372, e373r⟩, hm374⟩ := hp 10 rfl
          have e373 : ρ 37 = .pointer (some ad372) := e373r
          rw [e373r] at hm374
          have hs := hs.memo1 (it := pl tStr x346.Name ad372) (List.mem_append.2 (.inl (hm374 _ (List.mem_of_getElem? (i := 0) rfl))))
          have e375 : ρ 29 = .bool (decide (0 < x26)) := (hp 2 rfl).1
          refine WL.loadP hs 0 rfl TI9 (.inr rfl) e373 (fun v349 hs => ?_) (hg := (wanted_of rfl rfl (bool_tr e375 hc340)).trans rfl)
          obtain rfl := hs.str 0 rfl
          exact WL.nil ⟨rfl, _, rfl, rfl, hs.cutG 0 2⟩
        · intro ρ w Γx Λx hs hu hp
          have e376 : ρ 31 = bstr x42.Name := (hp 4 rfl).1
          have e377 : ρ 38 = bstr x346.Name := (hp 11 rfl).1
          have e378 : ρ 29 = .bool (decide (0 < x26)) := (hp 2 rfl).1
          refine WL.binS (v := .bool ((Op.bytesLess x42.Name x346.Name || x42.Name == x346.Name))) e376 e377 (sb_leq _ _) ?_ (hg := (wanted_of rfl rfl (bool_tr e378 hc340)).trans rfl)
          exact WL.nil ⟨rfl, _, rfl, rfl, hs.cutG 0 0⟩
        · intro ρ w Γx Λx hs hu hp
          have e379 : ρ 29 = .bool (decide (0 < x26)) := (hp 2 rfl).1
          have e380 : ρ 39 = .bool ((Op.bytesLess x42.Name x346.Name || x42.Name == x346.Name)) := (hp 12 rfl).1
          refine WL.pickT (v := .bool ((Op.bytesLess x42.Name x346.Name || x42.Name == x346.Name))) (bool_tr e379 hc340) e380 ?_
          exact WL.nil ⟨rfl, _, rfl, rfl, hs.cutG 0 0⟩
        · intro ρ w Γx Λx hs hu hp
          have e381 : ρ 40 = .bool ((Op.bytesLess x42.Name x346.Name || x42.Name == x346.Name)) := (hp 13 rfl).1
          refine WL.move (v := .bool ((Op.bytesLess x42.Name x346.Name || x42.Name == x346.Name))) e381 ?_
          exact WL.nil ⟨rfl, _, rfl, rfl, hs.cutG 0 0⟩
        · intro ρ w Γx Λx hs hu hp
          have e382 : ρ 41 = .bool ((Op.bytesLess x42.Name x346.Name || x42.Name == x346.Name)) := (hp 14 rfl).1
          refine WL.pass ((wanted_of rfl rfl (bool_tr e382 hc350)).trans rfl) rfl ?_
          exact WL.nil ⟨rfl, _, rfl, rfl, hs.cutG 0 0⟩
        · intro ρ w Γx Λx hs hu hp
          have e383 : ρ 42 = undef := (hp 15 rfl).1
          have e384 : ρ 41 = .bool ((Op.bytesLess x42.Name x346.Name || x42.Name == x346.Name)) := (hp 14 rfl).1
          refine WL.pass ((wanted_of rfl rfl (bool_tr e384 hc350)).trans rfl) rfl ?_
          exact WL.nil ⟨rfl, _, rfl, rfl, hs.cutG 0 0⟩
        · intro ρ w Γx Λx hs hu hp
          have e385 : ρ 43 = undef := (hp 16 rfl).1
          have e386 : ρ 41 = .bool ((Op.bytesLess x42.Name x346.Name || x42.Name == x346.Name)) := (hp 14 rfl).1
          refine WL.pass ((wanted_of rfl rfl (bool_tr e386 hc350)).trans rfl) rfl ?_
          exact WL.nil ⟨rfl, _, rfl, rfl, hs.cutG 0 0⟩
        · intro ρ w Γx Λx hs hu hp
          have e387 : ρ 44 = undef := (hp 17 rfl).1
          have e388 : ρ 41 = .bool ((Op.bytesLess x42.Name x346.Name || x42.Name == x346.Name)) := (hp 14 rfl).1
          refine WL.pass ((wanted_of rfl rfl (bool_tr e388 hc350)).trans rfl) rfl ?_
          exact WL.nil ⟨rfl, _, rfl, rfl, hs.cutG 0 0⟩
        · intro ρ w Γx Λx hs hu hp
          have e389 : ρ 41 = .bool ((Op.bytesLess x42.Name x346.Name || x42.Name == x346.Name)) := (hp 14 rfl).1
          have e390 : ρ 45 = undef := (hp 18 rfl).1
          refine WL.pickT (v := .bool true) (bool_tr e389 hc350) rfl ?_
          exact WL.nil ⟨rfl, _, rfl, rfl, hs.cutG 0 0⟩
        · intro ρ w hs hu391 hp
          obtain ⟨⟨⟨⟨⟨⟨⟨⟨⟨⟨⟨⟨⟨⟨⟨⟨⟨⟨⟨⟨_, hp0_⟩, hp1_⟩, hp2_⟩, hp3_⟩, hp4_⟩, hp5_⟩, hp6_⟩, hp7_⟩, hp8_⟩, hp9_⟩, hp10_⟩, hp11_⟩, hp12_⟩, hp13_⟩, hp14_⟩, hp15_⟩, hp16_⟩, hp17_⟩, hp18_⟩, hp19_⟩ := hp
          have hs : St ok (bz w0) w [pl tStr x346.Name (adOf (ρ 37)), pl t_fold_Object x346 (adOf (ρ 36)), vl (tSlice t_fold_Object) x15.Objects (ρ 33), vl t_fold_Object x42 (.agg cs45.toArray), pl t_fold_Object x42 ad43, vl (tSlice t_fold_Object) x15.Objects (.slice a40 (x15.Objects).length c41), vl (tSlice t_fold_Object) x15.Objects (.slice a31 (x15.Objects).length c32), vl t_fold_Store x15 (.agg cs16.toArray)] [blk g47 51 cs45, blk g18 29 cs16] := hs
          have e392 : ρ 46 = .bool true := hp19_
          have e393 : ρ 45 = undef := hp18_
          have e394 : ρ 44 = undef := hp17_
          have e395 : ρ 43 = undef := hp16_
          have e396 : ρ 42 = undef := hp15_
          have e397 : ρ 41 = .bool ((Op.bytesLess x42.Name x346.Name || x42.Name == x346.Name)) := hp14_
          have e398 : ρ 40 = .bool ((Op.bytesLess x42.Name x346.Name || x42.Name == x346.Name)) := hp13_
          have e399 : ρ 39 = .bool ((Op.bytesLess x42.Name x346.Name || x42.Name == x346.Name)) := hp12_
          have e400 : ρ 38 = bstr x346.Name := hp11_
          obtain ⟨ad401, e402⟩ := hp10_
          have e402 : ρ 37 = .pointer (some ad401) := e402
          try rw [e402] at hs
          obtain ⟨ad403, e404⟩ := hp9_
          have e404 : ρ 36 = .pointer (some ad403) := e404
          try rw [e404] at hs
          have e405 : ρ 35 = .int .i64 x345 := hp8_
          have e406 : ρ 34 = .int .i64 x26 := hp7_
          obtain ⟨⟨a407, c408⟩, e409⟩ := hp6_
          have e409 : ρ 33 = .slice a407 (x15.Objects).length c408 := e409
          try rw [e409] at hs
          have e410 : ρ 32 = .pointer (some ⟨g18, 0, none⟩) := hp5_
          have e411 : ρ 31 = bstr x42.Name := hp4_
          have e412 : ρ 30 = .pointer (some ⟨g47, 0, none⟩) := hp3_
          have e413 : ρ 29 = .bool (decide (0 < x26)) := hp2_
          have e414 : ρ 28 = .bool (decide (0 < x26)) := hp1_
          have e415 : ρ 27 = .int .i64 x26 := hp0_
          refine WA.done (by kernel_rfl) ?_
          exact Jk52 true _ _ ((hu391 5 rfl).trans h25_5) ((hu391 6 rfl).trans h25_6) (hu391 7 rfl) e392 ((hs.mask [true, true]).pick [3, 7]) hf
      · refine W.any (by kernel_rfl) 20 0 [true, true, true, true, true, true, true, true, true, true, true, true, true, true, true, true, true, true, true, true] rfl rfl (poAt [pv (.int .i64 x26), pv (.bool (decide (0 < x26))), pv (.bool (decide (0 < x26))), pv (.pointer (some ⟨g47, 0, none⟩)), pv (bstr x42.Name), pv (.pointer (some ⟨g18, 0, none⟩)), pq (fun y : (Option Addr × Nat) => .slice y.1 (x15.Objects).length y.2) (fun v => [vl (tSlice t_fold_Object) x15.Objects v]) (fun v => []), pv (.int .i64 x26), pv (.int .i64 x345), pq (fun y : Addr => .pointer (some y)) (fun v => [pl t_fold_Object x346 (adOf v)]) (fun v => []), pq (fun y : Addr => .pointer (some y)) (fun v => [pl tStr x346.Name (adOf v)]) (fun v => []), pv (bstr x346.Name), pv (.bool ((Op.bytesLess x42.Name x346.Name || x42.Name == x346.Name))), pv (.bool ((Op.bytesLess x42.Name x346.Name || x42.Name == x346.Name))), pv (.bool ((Op.bytesLess x42.Name x346.Name || x42.Name == x346.Name))), pv (.pointer (some ⟨g47, 1, none⟩)), pq (fun y : (Option Addr × Nat) => .slice y.1 (x42.Fields).length y.2) (fun v => [vl (tSlice t_fold_Field) x42.Fields v]) (fun v => []), pv (.int .i64 ((x42.Fields).length : Int)), pv (.bool (((x42.Fields).length : Int) == 0)), pv (.bool (((x42.Fields).length : Int) == 0))]) (Λ := [blk g47 51 cs45, blk g18 29 cs16]) hs (by kernel_rfl) (by kernel_rfl) (by kernel_rfl) ⟨⟨⟨⟨⟨⟨⟨⟨⟨⟨⟨⟨⟨⟨⟨⟨⟨⟨⟨⟨trivial, ?_⟩, ?_⟩, ?_⟩, ?_⟩, ?_⟩, ?_⟩, ?_⟩, ?_⟩, ?_⟩, ?_⟩, ?_⟩, ?_⟩, ?_⟩, ?_⟩, ?_⟩, ?_⟩, ?_⟩, ?_⟩, ?_⟩, ?_⟩ ?_
        · intro ρ w Γx Λx hs hu hp
          refine WL.move (v := .int .i64 x26) ((hu 6 rfl).trans h25_6) ?_
          exact WL.nil ⟨rfl, _, rfl, rfl, hs.cutG 0 0⟩
        · intro ρ w Γx Λx hs hu hp
          have e419 : ρ 27 = .int .i64 x26 := (hp 0 rfl).1
          refine WL.bin (v := .bool (decide (0 < x26))) e419 rfl (ib_gtr _ _ _) ?_
          exact WL.nil ⟨rfl, _, rfl, rfl, hs.cutG 0 0⟩
        · intro ρ w Γx Λx hs hu hp
          have e420 : ρ 28 = .bool (decide (0 < x26)) := (hp 1 rfl).1
          refine WL.move (v := .bool (decide (0 < x26))) e420 ?_
          exact WL.nil ⟨rfl, _, rfl, rfl, hs.cutG 0 0⟩
        · intro ρ w Γx Λx hs hu hp
          have e421 : ρ 29 = .bool (decide (0 < x26)) := (hp 2 rfl).1
          refine WL.fieldAddr (m := 0) (hu 7 rfl) FA51_0 rfl ?_ (hg := (wanted_of rfl rfl (bool_tr e421 hc340)).trans rfl)
          exact WL.nil ⟨rfl, _, rfl, rfl, hs.cutG 0 0⟩
        · intro ρ w Γx Λx hs hu hp
          have e422 : ρ 30 = .pointer (some ⟨g47, 0, none⟩) := (hp 3 rfl).1
          have e423 : ρ 29 = .bool (decide (0 < x26)) := (hp 2 rfl).1
          refine WL.loadF (z := x42.Name) F_fold_Object_Name hs (Λx.length + 0) (getApp rfl) (Γx.length + 0) (getApp rfl) rfl TI9 (.inr rfl) e422 rfl (fun v341 hs => ?_) (hg := (wanted_of rfl rfl (bool_tr e423 hc340)).trans rfl)
          obtain rfl := hs.str 0 rfl
          exact WL.nil ⟨rfl, _, rfl, rfl, hs.cutG 0 1⟩
        · intro ρ w Γx Λx hs hu hp
          have e424 : ρ 29 = .bool (decide (0 < x26)) := (hp 2 rfl).1
          refine WL.fieldAddr (m := 0) ((hu 5 rfl).trans h25_5) FA29_0 rfl ?_ (hg := (wanted_of rfl rfl (bool_tr e424 hc340)).trans rfl)
          exact WL.nil ⟨rfl, _, rfl, rfl, hs.cutG 0 0⟩
        · intro ρ w Γx Λx hs hu hp
          have e425 : ρ 32 = .pointer (some ⟨g18, 0, none⟩) := (hp 5 rfl).1
          have e426 : ρ 29 = .bool (decide (0 < x26)) := (hp 2 rfl).1
          refine WL.loadF (z := x15.Objects) F_fold_Store_Objects hs (Λx.length + 1) (getApp rfl) (Γx.length + 4) (getApp rfl) rfl TI27 (.inr rfl) e425 rfl (fun v342 hs => ?_) (hg := (wanted_of rfl rfl (bool_tr e426 hc340)).trans rfl)
          obtain ⟨a343, c344, rfl⟩ := hs.slice 0 rfl
          have hs := hs.add (it := vl (tSlice t_fold_Object) x15.Objects (.slice a343 (x15.Objects).length c344)) fun ok hA => hA.get 0 rfl
          exact WL.nil ⟨rfl, _, rfl, ⟨(a343, c344), rfl⟩, hs.cutG 1 1⟩
        · intro ρ w Γx Λx hs hu hp
          have e427 : ρ 29 = .bool (decide (0 < x26)) := (hp 2 rfl).1
          refine WL.move (v := .int .i64 x26) ((hu 6 rfl).trans h25_6) ?_ (hg := (wanted_of rfl rfl (bool_tr e427 hc340)).trans rfl)
          exact WL.nil ⟨rfl, _, rfl, rfl, hs.cutG 0 0⟩
        · intro ρ w Γx Λx hs hu hp
          have e428 : ρ 34 = .int .i64 x26 := (hp 7 rfl).1
          have e429 : ρ 29 = .bool (decide (0 < x26)) := (hp 2 rfl).1
          refine WL.bin (v := .int .i64 x345) e428 rfl (ib_as ex345 (ib_sub _ _ _)) ?_ (hg := (wanted_of rfl rfl (bool_tr e429 hc340)).trans rfl)
          exact WL.nil ⟨rfl, _, rfl, rfl, hs.cutG 0 0⟩
        · intro ρ w Γx Λx hs hu hp
          obtain ⟨⟨⟨a430, c431⟩, e432r⟩, hm433⟩ := hp 6 rfl
          have e432 : ρ 33 = .slice a430 (x15.Objects).length c431 := e432r
          rw [e432r] at hm433
          have hs := hs.memo1 (it := vl (tSlice t_fold_Object) x15.Objects (.slice a430 (x15.Objects).length c431)) (List.mem_append.2 (.inl (hm433 _ (List.mem_of_getElem? (i := 0) rfl))))
          have e434 : ρ 35 = .int .i64 x345 := (hp 8 rfl).1
          have e435 : ρ 29 = .bool (decide (0 < x26)) := (hp 2 rfl).1
          refine WL.indexAddr hs 0 rfl UN27 TI51 e432 e434 hxx346 (fun ad347 hs => ?_) (hg := (wanted_of rfl rfl (bool_tr e435 hc340)).trans rfl)
          have hs := hs.add (it := pl t_fold_Object x346 ad347) fun ok hA => hA.get 0 rfl
          exact WL.nil ⟨rfl, _, rfl, ⟨ad347, rfl⟩, hs.cutG 1 2⟩
        · intro ρ w Γx Λx hs hu hp
          obtain ⟨⟨ad436, e437r⟩, hm438⟩ := hp 9 rfl
          have e437 : ρ 36 = .pointer (some ad436) := e437r
          rw [e437r] at hm438
          have hs := hs.memo1 (it := pl t_fold_Object x346 ad436) (List.mem_append.2 (.inl (hm438 _ (List.mem_of_getElem? (i := 0) rfl))))
          have e439 : ρ 29 = .bool (decide (0 < x26)) := (hp 2 rfl).1
          refine WL.fieldAddrP (z := x346.Name) F_fold_Object_Name hs 0 rfl e437 FA51_0 rfl (fun ad348 hs => ?_) (hg := (wanted_of rfl rfl (bool_tr e439 hc340)).trans rfl)
          have hs := hs.add (it := pl tStr x346.Name ad348) fun ok hA => hA.get 0 rfl
          exact WL.nil ⟨rfl, _, rfl, ⟨ad348, rfl⟩, hs.cutG 1 2⟩
        · intro ρ w Γx Λx hs hu hp
          obtain ⟨⟨ad440, e441r⟩, hm442⟩ := hp 10 rfl
          have e441 : ρ 37 = .pointer (some ad440) := e441r
          rw [e441r] at hm442
          have hs := hs.memo1 (it := pl tStr x346.Name ad440) (List.mem_append.2 (.inl (hm442 _ (List.mem_of_getElem? (i := 0) rfl))))
          have e443 : ρ 29 = .bool (decide (0 < x26)) := (hp 2 rfl).1
          refine WL.loadP hs 0 rfl TI9 (.inr rfl) e441 (fun v349 hs => ?_) (hg := (wanted_of rfl rfl (bool_tr e443 hc340)).trans rfl)
          obtain rfl := hs.str 0 rfl
          exact WL.nil ⟨rfl, _, rfl, rfl, hs.cutG 0 2⟩
        · intro ρ w Γx Λx hs hu hp
          have e444 : ρ 31 = bstr x42.Name := (hp 4 rfl).1
          have e445 : ρ 38 = bstr x346.Name := (hp 11 rfl).1
          have e446 : ρ 29 = .bool (decide (0 < x26)) := (hp 2 rfl).1
          refine WL.binS (v := .bool ((Op.bytesLess x42.Name x346.Name || x42.Name == x346.Name))) e444 e445 (sb_leq _ _) ?_ (hg := (wanted_of rfl rfl (bool_tr e446 hc340)).trans rfl)
          exact WL.nil ⟨rfl, _, rfl, rfl, hs.cutG 0 0⟩
        · intro ρ w Γx Λx hs hu hp
          have e447 : ρ 29 = .bool (decide (0 < x26)) := (hp 2 rfl).1
          have e448 : ρ 39 = .bool ((Op.bytesLess x42.Name x346.Name || x42.Name == x346.Name)) := (hp 12 rfl).1
          refine WL.pickT (v := .bool ((Op.bytesLess x42.Name x346.Name || x42.Name == x346.Name))) (bool_tr e447 hc340) e448 ?_
          exact WL.nil ⟨rfl, _, rfl, rfl, hs.cutG 0 0⟩
        · intro ρ w Γx Λx hs hu hp
          have e449 : ρ 40 = .bool ((Op.bytesLess x42.Name x346.Name || x42.Name == x346.Name)) := (hp 13 rfl).1
          refine WL.move (v := .bool ((Op.bytesLess x42.Name x346.Name || x42.Name == x346.Name))) e449 ?_
          exact WL.nil ⟨rfl, _, rfl, rfl, hs.cutG 0 0⟩
        · intro ρ w Γx Λx hs hu hp
          have e450 : ρ 41 = .bool ((Op.bytesLess x42.Name x346.Name || x42.Name == x346.Name)) := (hp 14 rfl).1
          refine WL.fieldAddr (m := 1) (hu 7 rfl) FA51_1 rfl ?_ (hg := (wanted_of rfl rfl (bool_tr e450 hc350)).trans rfl)
          exact WL.nil ⟨rfl, _, rfl, rfl, hs.cutG 0 0⟩
        · intro ρ w Γx Λx hs hu hp
          have e451 : ρ 42 = .pointer (some ⟨g47, 1, none⟩) := (hp 15 rfl).1
          have e452 : ρ 41 = .bool ((Op.bytesLess x42.Name x346.Name || x42.Name == x346.Name)) := (hp 14 rfl).1
          refine WL.loadF (z := x42.Fields) F_fold_Object_Fields hs (Λx.length + 0) (getApp rfl) (Γx.length + 0) (getApp rfl) rfl TI49 (.inr rfl) e451 rfl (fun v416 hs => ?_) (hg := (wanted_of rfl rfl (bool_tr e452 hc350)).trans rfl)
          obtain ⟨a417, c418, rfl⟩ := hs.slice 0 rfl
          have hs := hs.add (it := vl (tSlice t_fold_Field) x42.Fields (.slice a417 (x42.Fields).length c418)) fun ok hA => hA.get 0 rfl
          exact WL.nil ⟨rfl, _, rfl, ⟨(a417, c418), rfl⟩, hs.cutG 1 1⟩
        · intro ρ w Γx Λx hs hu hp
          obtain ⟨⟨⟨a453, c454⟩, e455r⟩, hm456⟩ := hp 16 rfl
          have e455 : ρ 43 = .slice a453 (x42.Fields).length c454 := e455r
          rw [e455r] at hm456
          have hs := hs.memo1 (it := vl (tSlice t_fold_Field) x42.Fields (.slice a453 (x42.Fields).length c454)) (List.mem_append.2 (.inl (hm456 _ (List.mem_of_getElem? (i := 0) rfl))))
          have e457 : ρ 41 = .bool ((Op.bytesLess x42.Name x346.Name || x42.Name == x346.Name)) := (hp 14 rfl).1
          refine WL.len (v := .slice a453 (x42.Fields).length c454) e455 (len_slice UN49) ?_ (hg := (wanted_of rfl rfl (bool_tr e457 hc350)).trans rfl)
          exact WL.nil ⟨rfl, _, rfl, rfl, hs.cutG 0 1⟩
        · intro ρ w Γx Λx hs hu hp
          have e458 : ρ 44 = .int .i64 ((x42.Fields).length : Int) := (hp 17 rfl).1
          have e459 : ρ 41 = .bool ((Op.bytesLess x42.Name x346.Name || x42.Name == x346.Name)) := (hp 14 rfl).1
          refine WL.bin (v := .bool (((x42.Fields).length : Int) == 0)) e458 rfl (ib_eql _ _ _) ?_ (hg := (wanted_of rfl rfl (bool_tr e459 hc350)).trans rfl)
          exact WL.nil ⟨rfl, _, rfl, rfl, hs.cutG 0 0⟩
        · intro ρ w Γx Λx hs hu hp
          have e460 : ρ 41 = .bool ((Op.bytesLess x42.Name x346.Name || x42.Name == x346.Name)) := (hp 14 rfl).1
          have e461 : ρ 45 = .bool (((x42.Fields).length : Int) == 0) := (hp 18 rfl).1
          refine WL.pickF (v := .bool (((x42.Fields).length : Int) == 0)) (bool_tr e460 hc350) e461 ?_
          exact WL.nil ⟨rfl, _, rfl, rfl, hs.cutG 0 0⟩
        · intro ρ w hs hu462 hp
          obtain ⟨⟨⟨⟨⟨⟨⟨⟨⟨⟨⟨⟨⟨⟨⟨⟨⟨⟨⟨⟨_, hp0_⟩, hp1_⟩, hp2_⟩, hp3_⟩, hp4_⟩, hp5_⟩, hp6_⟩, hp7_⟩, hp8_⟩, hp9_⟩, hp10_⟩, hp11_⟩, hp12_⟩, hp13_⟩, hp14_⟩, hp15_⟩, hp16_⟩, hp17_⟩, hp18_⟩, hp19_⟩ := hp
          have hs : St ok (bz w0) w [vl (tSlice t_fold_Field) x42.Fields (ρ 43), pl tStr x346.Name (adOf (ρ 37)), pl t_fold_Object x346 (adOf (ρ 36)), vl (tSlice t_fold_Object) x15.Objects (ρ 33), vl t_fold_Object x42 (.agg cs45.toArray), pl t_fold_Object x42 ad43, vl (tSlice t_fold_Object) x15.Objects (.slice a40 (x15.Objects).length c41), vl (tSlice t_fold_Object) x15.Objects (.slice a31 (x15.Objects).length c32), vl t_fold_Store x15 (.agg cs16.toArray)] [blk g47 51 cs45, blk g18 29 cs16] := hs
          have e463 : ρ 46 = .bool (((x42.Fields).length : Int) == 0) := hp19_
          have e464 : ρ 45 = .bool (((x42.Fields).length : Int) == 0) := hp18_
          have e465 : ρ 44 = .int .i64 ((x42.Fields).length : Int) := hp17_
          obtain ⟨⟨a466, c467⟩, e468⟩ := hp16_
          have e468 : ρ 43 = .slice a466 (x42.Fields).length c467 := e468
          try rw [e468] at hs
          have e469 : ρ 42 = .pointer (some ⟨g47, 1, none⟩) := hp15_
          have e470 : ρ 41 = .bool ((Op.bytesLess x42.Name x346.Name || x42.Name == x346.Name)) := hp14_
          have e471 : ρ 40 = .bool ((Op.bytesLess x42.Name x346.Name || x42.Name == x346.Name)) := hp13_
          have e472 : ρ 39 = .bool ((Op.bytesLess x42.Name x346.Name || x42.Name == x346.Name)) := hp12_
          have e473 : ρ 38 = bstr x346.Name := hp11_
          obtain ⟨ad474, e475⟩ := hp10_
          have e475 : ρ 37 = .pointer (some ad474) := e475
          try rw [e475] at hs
          obtain ⟨ad476, e477⟩ := hp9_
          have e477 : ρ 36 = .pointer (some ad476) := e477
          try rw [e477] at hs
          have e478 : ρ 35 = .int .i64 x345 := hp8_
          have e479 : ρ 34 = .int .i64 x26 := hp7_
          obtain ⟨⟨a480, c481⟩, e482⟩ := hp6_
          have e482 : ρ 33 = .slice a480 (x15.Objects).length c481 := e482
          try rw [e482] at hs
          have e483 : ρ 32 = .pointer (some ⟨g18, 0, none⟩) := hp5_
          have e484 : ρ 31 = bstr x42.Name := hp4_
          have e485 : ρ 30 = .pointer (some ⟨g47, 0, none⟩) := hp3_
          have e486 : ρ 29 = .bool (decide (0 < x26)) := hp2_
          have e487 : ρ 28 = .bool (decide (0 < x26)) := hp1_
          have e488 : ρ 27 = .int .i64 x26 := hp0_
          refine WA.done (by kernel_rfl) ?_
          exact Jk52 (((x42.Fields).length : Int) == 0) _ _ ((hu462 5 rfl).trans h25_5) ((hu462 6 rfl).trans h25_6) (hu462 7 rfl) e463 ((hs.mask [true, true]).pick [4, 8]) hf
    · refine W.any (by kernel_rfl) 20 0 [true, true, true, true, true, true, true, true, true, true, true, true, true, true, true, true, true, true, true, true] rfl rfl (poAt [pv (.int .i64 x26), pv (.bool (decide (0 < x26))), pv (.bool (decide (0 < x26))), pv (undef), pv (undef), pv (undef), pv (undef), pv (undef), pv (undef), pv (undef), pv (undef), pv (undef), pv (undef), pv (.bool false), pv (.bool false), pv (.pointer (some ⟨g47, 1, none⟩)), pq (fun y : (Option Addr × Nat) => .slice y.1 (x42.Fields).length y.2) (fun v => [vl (tSlice t_fold_Field) x42.Fields v]) (fun v => []), pv (.int .i64 ((x42.Fields).length : Int)), pv (.bool (((x42.Fields).length : Int) == 0)), pv (.bool (((x42.Fields).length : Int) == 0))]) (Λ := [blk g47 51 cs45, blk g18 29 cs16]) hs (by kernel_rfl) (by kernel_rfl) (by kernel_rfl) ⟨⟨⟨⟨⟨⟨⟨⟨⟨⟨⟨⟨⟨⟨⟨⟨⟨⟨⟨⟨trivial, ?_⟩, ?_⟩, ?_⟩, ?_⟩, ?_⟩, ?_⟩, ?_⟩, ?_⟩, ?_⟩, ?_⟩, ?_⟩, ?_⟩, ?_⟩, ?_⟩, ?_⟩, ?_⟩, ?_⟩, ?_⟩, ?_⟩, ?_⟩ ?_
      · intro ρ w Γx Λx hs hu hp
        refine WL.move (v := .int .i64 x26) ((hu 6 rfl).trans h25_6) ?_
        exact WL.nil ⟨rfl, _, rfl, rfl, hs.cutG 0 0⟩
      · intro ρ w Γx Λx hs hu hp
        have e492 : ρ 27 = .int .i64 x26 := (hp 0 rfl).1
        refine WL.bin (v := .bool (decide (0 < x26))) e492 rfl (ib_gtr _ _ _) ?_
        exact WL.nil ⟨rfl, _, rfl, rfl, hs.cutG 0 0⟩
      · intro ρ w Γx Λx hs hu hp
        have e493 : ρ 28 = .bool (decide (0 < x26)) := (hp 1 rfl).1
        refine WL.move (v := .bool (decide (0 < x26))) e493 ?_
        exact WL.nil ⟨rfl, _, rfl, rfl, hs.cutG 0 0⟩
      · intro ρ w Γx Λx hs hu hp
        have e494 : ρ 29 = .bool (decide (0 < x26)) := (hp 2 rfl).1
        refine WL.pass ((wanted_of rfl rfl (bool_tr e494 hc340)).trans rfl) rfl ?_
        exact WL.nil ⟨rfl, _, rfl, rfl, hs.cutG 0 0⟩
      · intro ρ w Γx Λx hs hu hp
        have e495 : ρ 30 = undef := (hp 3 rfl).1
        have e496 : ρ 29 = .bool (decide (0 < x26)) := (hp 2 rfl).1
        refine WL.pass ((wanted_of rfl rfl (bool_tr e496 hc340)).trans rfl) rfl ?_
        exact WL.nil ⟨rfl, _, rfl, rfl, hs.cutG 0 0⟩
      · intro ρ w Γx Λx hs hu hp
        have e497 : ρ 29 = .bool (decide (0 < x26)) := (hp 2 rfl).1
        refine WL.pass ((wanted_of rfl rfl (bool_tr e497 hc340)).trans rfl) rfl ?_
        exact WL.nil ⟨rfl, _, rfl, rfl, hs.cutG 0 0⟩
      · intro ρ w Γx Λx hs hu hp
        have e498 : ρ 32 = undef := (hp 5 rfl).1
        have e499 : ρ 29 = .bool (decide (0 < x26)) := (hp 2 rfl).1
        refine WL.pass ((wanted_of rfl rfl (bool_tr e499 hc340)).trans rfl) rfl ?_
        exact WL.nil ⟨rfl, _, rfl, rfl, hs.cutG 0 0⟩
      · intro ρ w Γx Λx hs hu hp
        have e500 : ρ 29 = .bool (decide (0 < x26)) := (hp 2 rfl).1
        refine WL.pass ((wanted_of rfl rfl (bool_tr e500 hc340)).trans rfl) rfl ?_
        exact WL.nil ⟨rfl, _, rfl, rfl, hs.cutG 0 0⟩
      · intro ρ w Γx Λx hs hu hp
        have e501 : ρ 34 = undef := (hp 7 rfl).1
        have e502 : ρ 29 = .bool (decide (0 < x26)) := (hp 2 rfl).1
        refine WL.pass ((wanted_of rfl rfl (bool_tr e502 hc340)).trans rfl) rfl ?_
        exact WL.nil ⟨rfl, _, rfl, rfl, hs.cutG 0 0⟩
      · intro ρ w Γx Λx hs hu hp
        have e503 : ρ 33 = undef := (hp 6 rfl).1
        have e504 : ρ 35 = undef := (hp 8 rfl).1
        have e505 : ρ 29 = .bool (decide (0 < x26)) := (hp 2 rfl).1
        refine WL.pass ((wanted_of rfl rfl (bool_tr e505 hc340)).trans rfl) rfl ?_
        exact WL.nil ⟨rfl, _, rfl, rfl, hs.cutG 0 0⟩
      · intro ρ w Γx Λx hs hu hp
        have e506 : ρ 36 = undef := (hp 9 rfl).1
        have e507 : ρ 29 = .bool (decide (0 < x26)) := (hp 2 rfl).1
        refine WL.pass ((wanted_of rfl rfl (bool_tr e507 hc340)).trans rfl) rfl ?_
        exact WL.nil ⟨rfl, _, rfl, rfl, hs.cutG 0 0⟩
      · intro ρ w Γx Λx hs hu hp
        have e508 : ρ 37 = undef := (hp 10 rfl).1
        have e509 : ρ 29 = .bool (decide (0 < x26)) := (hp 2 rfl).1
        refine WL.pass ((wanted_of rfl rfl (bool_tr e509 hc340)).trans rfl) rfl ?_
        exact WL.nil ⟨rfl, _, rfl, rfl, hs.cutG 0 0⟩
      · intro ρ w Γx Λx hs hu hp
        have e510 : ρ 31 = undef := (hp 4 rfl).1
        have e511 : ρ 38 = undef := (hp 11 rfl).1
        have e512 : ρ 29 = .bool (decide (0 < x26)) := (hp 2 rfl).1
        refine WL.pass ((wanted_of rfl rfl (bool_tr e512 hc340)).trans rfl) rfl ?_
        exact WL.nil ⟨rfl, _, rfl, rfl, hs.cutG 0 0⟩
      · intro ρ w Γx Λx hs hu hp
        have e513 : ρ 29 = .bool (decide (0 < x26)) := (hp 2 rfl).1
        have e514 : ρ 39 = undef := (hp 12 rfl).1
        refine WL.pickF (v := .bool false) (bool_tr e513 hc340) rfl ?_
        exact WL.nil ⟨rfl, _, rfl, rfl, hs.cutG 0 0⟩
      · intro ρ w Γx Λx hs hu hp
        have e515 : ρ 40 = .bool false := (hp 13 rfl).1
        refine WL.move (v := .bool false) e515 ?_
        exact WL.nil ⟨rfl, _, rfl, rfl, hs.cutG 0 0⟩
      · intro ρ w Γx Λx hs hu hp
        have e516 : ρ 41 = .bool false := (hp 14 rfl).1
        refine WL.fieldAddr (m := 1) (hu 7 rfl) FA51_1 rfl ?_ (hg := (wanted_of rfl rfl e516).trans rfl)
        exact WL.nil ⟨rfl, _, rfl, rfl, hs.cutG 0 0⟩
      · intro ρ w Γx Λx hs hu hp
        have e517 : ρ 42 = .pointer (some ⟨g47, 1, none⟩) := (hp 15 rfl).1
        have e518 : ρ 41 = .bool false := (hp 14 rfl).1
        refine WL.loadF (z := x42.Fields) F_fold_Object_Fields hs (Λx.length + 0) (getApp rfl) (Γx.length + 0) (getApp rfl) rfl TI49 (.inr rfl) e517 rfl (fun v489 hs => ?_) (hg := (wanted_of rfl rfl e518).trans rfl)
        obtain ⟨a490, c491, rfl⟩ := hs.slice 0 rfl
        have hs := hs.add (it := vl (tSlice t_fold_Field) x42.Fields (.slice a490 (x42.Fields).length c491)) fun ok hA => hA.get 0 rfl
        exact WL.nil ⟨rfl, _, rfl, ⟨(a490, c491), rfl⟩, hs.cutG 1 1⟩
      · intro ρ w Γx Λx hs hu hp
        obtain ⟨⟨⟨a519, c520⟩, e521r⟩, hm522⟩ := hp 16 rfl
        have e521 : ρ 43 = .slice a519 (x42.Fields).length c520 := e521r
        rw [e521r] at hm522
        have hs := hs.memo1 (it := vl (tSlice t_fold_Field) x42.Fields (.slice a519 (x42.Fields).length c520)) (List.mem_append.2 (.inl (hm522 _ (List.mem_of_getElem? (i := 0) rfl))))
        have e523 : ρ 41 = .bool false := (hp 14 rfl).1
        refine WL.len (v := .slice a519 (x42.Fields).length c520) e521 (len_slice UN49) ?_ (hg := (wanted_of rfl rfl e523).trans rfl)
        exact WL.nil ⟨rfl, _, rfl, rfl, hs.cutG 0 1⟩
      · intro ρ w Γx Λx hs hu hp
        have e524 : ρ 44 = .int .i64 ((x42.Fields).length : Int) := (hp 17 rfl).1
        have e525 : ρ 41 = .bool false := (hp 14 rfl).1
        refine WL.bin (v := .bool (((x42.Fields).length : Int) == 0)) e524 rfl (ib_eql _ _ _) ?_ (hg := (wanted_of rfl rfl e525).trans rfl)
        exact WL.nil ⟨rfl, _, rfl, rfl, hs.cutG 0 0⟩
      · intro ρ w Γx Λx hs hu hp
        have e526 : ρ 41 = .bool false := (hp 14 rfl).1
        have e527 : ρ 45 = .bool (((x42.Fields).length : Int) == 0) := (hp 18 rfl).1
        refine WL.pickF (v := .bool (((x42.Fields).length : Int) == 0)) e526 e527 ?_
        exact WL.nil ⟨rfl, _, rfl, rfl, hs.cutG 0 0⟩
      · intro ρ w hs hu528 hp
        obtain ⟨⟨⟨⟨⟨⟨⟨⟨⟨⟨⟨⟨⟨⟨⟨⟨⟨⟨⟨⟨_, hp0_⟩, hp1_⟩, hp2_⟩, hp3_⟩, hp4_⟩, hp5_⟩, hp6_⟩, hp7_⟩, hp8_⟩, hp9_⟩, hp10_⟩, hp11_⟩, hp12_⟩, hp13_⟩, hp14_⟩, hp15_⟩, hp16_⟩, hp17_⟩, hp18_⟩, hp19_⟩ := hp
        have hs : St ok (bz w0) w [vl (tSlice t_fold_Field) x42.Fields (ρ 43), vl t_fold_Object x42 (.agg cs45.toArray), pl t_fold_Object x42 ad43, vl (tSlice t_fold_Object) x15.Objects (.slice a40 (x15.Objects).length c41), vl (tSlice t_fold_Object) x15.Objects (.slice a31 (x15.Objects).length c32), vl t_fold_Store x15 (.agg cs16.toArray)] [blk g47 51 cs45, blk g18 29 cs16] := hs
        have e529 : ρ 46 = .bool (((x42.Fields).length : Int) == 0) := hp19_
        have e530 : ρ 45 = .bool (((x42.Fields).length : Int) == 0) := hp18_
        have e531 : ρ 44 = .int .i64 ((x42.Fields).length : Int) := hp17_
        obtain ⟨⟨a532, c533⟩, e534⟩ := hp16_
        have e534 : ρ 43 = .slice a532 (x42.Fields).length c533 := e534
        try rw [e534] at hs
        have e535 : ρ 42 = .pointer (some ⟨g47, 1, none⟩) := hp15_
        have e536 : ρ 41 = .bool false := hp14_
        have e537 : ρ 40 = .bool false := hp13_
        have e538 : ρ 39 = undef := hp12_
        have e539 : ρ 38 = undef := hp11_
        have e540 : ρ 37 = undef := hp10_
        have e541 : ρ 36 = undef := hp9_
        have e542 : ρ 35 = undef := hp8_
        have e543 : ρ 34 = undef := hp7_
        have e544 : ρ 33 = undef := hp6_
        have e545 : ρ 32 = undef := hp5_
        have e546 : ρ 31 = undef := hp4_
        have e547 : ρ 30 = undef := hp3_
        have e548 : ρ 29 = .bool (decide (0 < x26)) := hp2_
        have e549 : ρ 28 = .bool (decide (0 < x26)) := hp1_
        have e550 : ρ 27 = .int .i64 x26 := hp0_
        refine WA.done (by kernel_rfl) ?_
        exact Jk52 (((x42.Fields).length : Int) == 0) _ _ ((hu528 5 rfl).trans h25_5) ((hu528 6 rfl).trans h25_6) (hu528 7 rfl) e529 ((hs.mask [true, true]).pick [1, 5]) hf
  · refine W.cond_false (bool_tr rfl hc33) ?_
    refine W.exit ?_
    have hr := Option.some.inj hf; subst hr
    have hr := hbbs27 _ rfl; subst hr
    have hf := hfs27
    exact Jk21  _ _  ((hs.mask []).pick []) hf
end Go.Proofs.Ytlbcfjblpopcnaa
